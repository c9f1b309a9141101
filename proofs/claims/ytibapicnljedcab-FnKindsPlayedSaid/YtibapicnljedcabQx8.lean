/- Plain Lean functions with the answers of Go functions, and proofs of it: printed by a program of this session (pr.py) over the kit's print, with hand-written parts. -/
import Derived.Test.YtibapicnljedcabQx0
import Derived.Test.YtibapicnljedcabQx2
import Derived.Test.YtibapicnljedcabQx3
import Derived.Test.YtibapicnljedcabQx4
import Derived.Test.YtibapicnljedcabQx5
import Derived.Test.YtibapicnljedcabQx6
import Derived.Test.YtibapicnljedcabQx7
namespace Go.Proofs.Ytibapicnljedcab.Q
open Go.RowKit Go.Proofs.YtibapicnljedcabW.PrintWords Go.Proofs.YtibapicnljedcabW.PrintLast Go.Proofs.YtibapicnljedcabW.PrintMore
attribute [local go_sem] max2_int min2_int max_two min_two max_three min_three max_four min_four   -- for this text's walks alone
set_option linter.unusedVariables false
set_option linter.unusedSimpArgs false

-- FOR spec.FirstKindTest
-- KIND rounds=0 making=1
-- CALLS spec.PlayKinds ; spec.kiAsked ; spec.kiStart ; spec.kiTable ; spec.kiPlay ; impl.FewestKinds
def spec_FirstKindTest.f (a0 a1 a2 : Int) : Option (Bool × Int × Bool) := some (if kAsk a0 a1 a2 && !(a2 == 0) then ((kFirst (kStart a0 a1 a2)).1, (kFirst (kStart a0 a1 a2)).2, true) else (false, 0, false))
set_option maxHeartbeats 8000000 in
set_option maxRecDepth 100000 in
theorem spec_FirstKindTest.calls (a0 : Int) (a1 : Int) (a2 : Int) (r1 : Bool) (r2 : Int) (r3 : Bool) (w : World) (h : spec_FirstKindTest.f a0 a1 a2 = some (r1, r2, r3)) :
    Calls Try.prog 13 #[.int .i64 a0, .int .i64 a1, .int .i64 a2] w fun e w' => e = .returned (.tuple #[.bool r1, .int .i64 r2, .bool r3]) ∧ Below w.heap.size w w' := by
  have HB := Aside0.mk (Below.refl w.heap.size w)
  obtain ⟨b1, hb1⟩ : ∃ b, b = kAsk a0 a1 a2 := ⟨_, rfl⟩
  have e1 := kiAsked_is a0 a1 a2
  unfold spec_FirstKindTest.f at h
  rw [← hb1] at e1 h
  have HC := Aside0.mk e1
  have HC1 := Aside0.mk hb1
  clear e1 hb1
  cases b1 with
  | false =>
    simp only [Bool.false_and, Bool.false_eq_true, if_false, Option.some.injEq, Prod.mk.injEq] at h
    obtain ⟨rfl, rfl, rfl⟩ := h
    go_enter Try.func13, Try.ntmps13
    go_wp2_with (first | ((with_reducible refine gate_callee (f := 33) rfl ?_); refine goesL_ (some 14) rfl rfl Try.func33 (by kernel_rfl) rfl #[.int .i64 a0, .int .i64 a1, .int .i64 a2] rfl (by (try simp only [List.map_toArray, List.map_cons, List.map_nil]); first | done | rfl) ?_; refine (spec_kiAsked.calls _ _ _ _ _ HC.out).mono ?_; rintro e_ w_1 ⟨rfl, hd_⟩; refine ⟨_, rfl, ?_⟩; have hb_ := hd_.below; clear hd_; have n0_ : Aside0 (Below w.heap.size w w_1) := ⟨Hx.bb_below hb_ (by first | exact HB.out | exact below_drew1 HB.out | exact pw_below_drewN HB.out _)⟩; (try clear HB); have HB := n0_; clear n0_; clear hb_))
    go_ret3
    exact ⟨rfl, HB.out⟩
  | true =>
    obtain ⟨b2, hb2⟩ : ∃ b, b = (a2 == 0) := ⟨_, rfl⟩
    rw [← hb2] at h
    have hb3 := hb2.symm
    cases b2 with
    | true =>
      simp only [Bool.not_true, Bool.and_false, Bool.false_eq_true, if_false, Option.some.injEq, Prod.mk.injEq] at h
      obtain ⟨rfl, rfl, rfl⟩ := h
      clear hb2
      go_enter Try.func13, Try.ntmps13
      go_wp2_with (first | ((with_reducible refine gate_callee (f := 33) rfl ?_); refine goesL_ (some 14) rfl rfl Try.func33 (by kernel_rfl) rfl #[.int .i64 a0, .int .i64 a1, .int .i64 a2] rfl (by (try simp only [List.map_toArray, List.map_cons, List.map_nil]); first | done | rfl) ?_; refine (spec_kiAsked.calls _ _ _ _ _ HC.out).mono ?_; rintro e_ w_1 ⟨rfl, hd_⟩; refine ⟨_, rfl, ?_⟩; have hb_ := hd_.below; clear hd_; have n0_ : Aside0 (Below w.heap.size w w_1) := ⟨Hx.bb_below hb_ (by first | exact HB.out | exact below_drew1 HB.out | exact pw_below_drewN HB.out _)⟩; (try clear HB); have HB := n0_; clear n0_; clear hb_))
      go_ret3
      exact ⟨rfl, HB.out⟩
    | false =>
      simp only [Bool.not_false, Bool.and_true, if_true, Option.some.injEq, Prod.mk.injEq] at h
      have HS0 := Aside0.mk (kAsk_good HC1.out.symm)
      have HS1 := Aside0.mk (kAsk_low HC1.out.symm)
      have HSD : Aside0 ((kStart a0 a1 a2).done = false) := ⟨by
        have h3 : a2 ≠ 0 := by simpa using hb3
        cases hd : (kStart a0 a1 a2).done with
        | false => rfl
        | true => exact absurd ((done_iff _).1 hd).1.symm h3⟩
      clear hb2
      have HR := Aside0.mk h
      clear h
      go_enter Try.func13, Try.ntmps13
      go_wp2_with (first | ((with_reducible refine gate_callee (f := 33) rfl ?_); refine goesL_ (some 14) rfl rfl Try.func33 (by kernel_rfl) rfl #[.int .i64 a0, .int .i64 a1, .int .i64 a2] rfl (by (try simp only [List.map_toArray, List.map_cons, List.map_nil]); first | done | rfl) ?_; refine (spec_kiAsked.calls _ _ _ _ _ HC.out).mono ?_; rintro e_ w_1 ⟨rfl, hd_⟩; refine ⟨_, rfl, ?_⟩; have hb_ := hd_.below; clear hd_; have n0_ : Aside0 (Below w.heap.size w w_1) := ⟨Hx.bb_below hb_ (by first | exact HB.out | exact below_drew1 HB.out | exact pw_below_drewN HB.out _)⟩; (try clear HB); have HB := n0_; clear n0_; clear hb_) | ((with_reducible refine gate_callee (f := 36) rfl ?_); refine goesL_ (some 21) rfl rfl Try.func36 (by kernel_rfl) rfl #[] rfl (by (try simp only [List.map_toArray, List.map_cons, List.map_nil]); first | done | rfl) ?_; refine (spec_kiTable.calls 38417 _ _ kiTable_is).mono ?_; rintro e_ w_3 ⟨v_, rfl, hr_, hb_⟩; refine ⟨_, rfl, ?_⟩; obtain ⟨tb, c0, rfl, ht_, hz_⟩ := tab_of hr_; have ZZ := Aside0.mk (show w.heap.size ≤ tb from Nat.le_trans HB.out.size hz_); have n0_ : Aside0 (Below w.heap.size w w_3) := ⟨Hx.bb_below hb_ (by first | exact HB.out | exact below_drew1 HB.out | exact pw_below_drewN HB.out _)⟩; have m0_ : Aside0 (Tab w_3 tb c0) := ⟨ht_⟩; (try clear HB); have HB := n0_; have HT := m0_; clear n0_ m0_; clear ht_ hb_ hr_ hz_) | ((with_reducible refine gate_callee (f := 37) rfl ?_); refine goesL_ (some 25) rfl rfl Try.func37 (by kernel_rfl) rfl #[.int .i64 a0, .int .i64 a1, .int .i64 a2] rfl (by (try simp only [List.map_toArray, List.map_cons, List.map_nil]); first | done | rfl) ?_; refine (spec_kiStart.calls a0 a1 a2 _ _ _ _ _ _ _ rfl).mono ?_; rintro e_ w_4 ⟨rfl, hb_⟩; refine ⟨_, rfl, ?_⟩; have n0_ : Aside0 (Below w.heap.size w w_4) := ⟨Hx.bb_below hb_ (by first | exact HB.out | exact below_drew1 HB.out | exact pw_below_drewN HB.out _)⟩; have n1_ : Aside0 (Tab w_4 tb c0) := ⟨Tab.below HT.out hb_⟩; (try clear HB); (try clear HT); have HB := n0_; have HT := n1_; clear n0_ n1_; clear hb_) | ((with_reducible refine gate_callee (f := 41) rfl ?_); refine goesL_ (some 26) rfl rfl Try.func41 (by kernel_rfl) rfl #[.slice (some ⟨tb, 0, none⟩) 38416 c0, .agg #[.int .i64 0, .int .i64 a2, .int .i64 0, .int .i64 a2, .int .i64 a0, .int .i64 a1]] rfl (by (try simp only [List.map_toArray, List.map_cons, List.map_nil]); first | done | rfl) ?_; refine (sfirst_of tb c0 (kStart a0 a1 a2) HS0.out.1 HSD.out HS1.out w_4 HT.out).mono ?_; rintro e_ w_5 ⟨rfl, hs_, hg_⟩; refine ⟨_, rfl, ?_⟩; have HB5 := Aside0.mk (Hx.bb_grown HB.out hg_ ZZ.out); clear HB HT hs_ hg_; have HB := HB5; clear HB5; obtain ⟨t1, ht1⟩ : ∃ t, t = (kFirst (kStart a0 a1 a2)).1 := ⟨_, rfl⟩; obtain ⟨t2, ht2⟩ : ∃ t, t = (kFirst (kStart a0 a1 a2)).2 := ⟨_, rfl⟩; rw [← ht1, ← ht2]; rw [← ht1, ← ht2] at HR; clear ht1 ht2))
      go_ret3
      obtain ⟨q1, q2, q3⟩ := HR.out
      subst q1 q2 q3
      exact ⟨rfl, HB.out⟩


-- FOR impl.FewestForWeak
-- KIND rounds=0 making=1
-- CALLS impl.PlayKinds ; impl.isKindHouse ; impl.nothing ; (*impl.solver).play ; impl.FewestKinds
open Hm
/-! ### The weak break alone -/
def KS.doneJ (k : KS) : Bool := decide (k.a = k.b)
theorem doneJ_iff (k : KS) : k.doneJ = true ↔ k.a = k.b := by unfold KS.doneJ; simp
def jG : Nat → KS → Int
  | 0, _ => 0
  | n + 1, k => if k.doneJ then 0 else kFold (fun t => 1 + max (jG n (k.aft t.1 false t.2)) (jG n (k.aft t.1 true t.2))) kNever k.tests
theorem jG_stable : ∀ (n m : Nat) (k : KS), KGood k → k.ms ≤ n → k.ms ≤ m → jG n k = jG m k := by
  have hz : ∀ (m : Nat) (k : KS), KGood k → k.ms ≤ 0 → jG m k = 0 := by
    intro m k hk h
    cases m with
    | zero => rfl
    | succ m =>
      have hd : k.doneJ = true := (doneJ_iff k).2 (by unfold KGood at hk; unfold KS.ms at h; omega)
      simp [jG, hd]
  intro n
  induction n with
  | zero => intro m k hk h1 h2; rw [hz m k hk h1]; rfl
  | succ n ih =>
    intro m k hk h1 h2
    cases m with
    | zero => rw [hz (n + 1) k hk h2]; rfl
    | succ m =>
      simp only [jG]
      cases k.doneJ with
      | true => rfl
      | false =>
        simp only [Bool.false_eq_true, if_false]
        refine kFold_congr _ _ fun t ht => ?_
        have a0 := aft_good hk ht false
        have a1 := aft_good hk ht true
        rw [ih m _ a0.1 (by omega) (by omega), ih m _ a1.1 (by omega) (by omega)]
def gJ (k : KS) : Int := jG k.ms k
def gV (k : KS) (t : Bool × Int) : Int := 1 + max (gJ (k.aft t.1 false t.2)) (gJ (k.aft t.1 true t.2))
theorem gJ_done {k : KS} (h : k.doneJ = true) : gJ k = 0 := by
  unfold gJ
  cases k.ms <;> simp [jG, h]
theorem gJ_eq {k : KS} (hk : KGood k) (h : k.doneJ = false) : gJ k = kFold (gV k) kNever k.tests := by
  have h1 : gJ k = jG (k.ms + 1) k := jG_stable _ _ _ hk (Nat.le_refl _) (Nat.le_succ _)
  rw [h1]
  simp only [jG, h, Bool.false_eq_true, if_false]
  refine kFold_congr _ _ fun t ht => ?_
  have a0 := aft_good hk ht false
  have a1 := aft_good hk ht true
  unfold gV gJ
  rw [jG_stable k.ms _ _ a0.1 (by omega) (Nat.le_refl _), jG_stable k.ms _ _ a1.1 (by omega) (Nat.le_refl _)]
theorem jG_lo (n : Nat) (k : KS) : 0 ≤ jG n k := by
  induction n generalizing k with
  | zero => exact Int.le_refl _
  | succ n ih =>
    unfold jG
    split
    · exact Int.le_refl _
    · exact kFold_ge _ _ _ _ (by decide) (fun t _ => by have := ih (k.aft t.1 false t.2); omega)
theorem gJ_lo (k : KS) : 0 ≤ gJ k := jG_lo _ _
theorem jG_hi (n : Nat) (k : KS) : jG n k ≤ kNever := by
  cases n with
  | zero => exact (by decide : (0 : Int) ≤ kNever)
  | succ n =>
    unfold jG
    split
    · decide
    · exact (kFold_le _ _ _).1
theorem gJ_hi (k : KS) : gJ k ≤ kNever := jG_hi _ _
theorem gV_lo (k : KS) (t : Bool × Int) : 1 ≤ gV k t := by unfold gV; have := gJ_lo (k.aft t.1 false t.2); omega
theorem gV_hi (k : KS) (t : Bool × Int) : gV k t ≤ kNever + 1 := by unfold gV; have := gJ_hi (k.aft t.1 false t.2); have := gJ_hi (k.aft t.1 true t.2); omega
def kJ : Value → Option Int
  | .agg cs => match cs.toList with
    | [.int .i64 a, .int .i64 b, .int .i64 c, .int .i64 d, .int .i64 w, .int .i64 s] => if KGood ⟨a, b, c, d, w, s⟩ then some (gJ ⟨a, b, c, d, w, s⟩) else none
    | _ => none
  | _ => none
theorem kJ_is (k : KS) (h : KGood k) : kJ (kCells k) = some (gJ k) := by simp [kJ, kCells, h]
theorem kJ_inv {v : Value} {n : Int} (h : kJ v = some n) : ∃ k, KGood k ∧ v = kCells k ∧ kPl v = kPlace k := by
  unfold kJ at h
  split at h
  · rename_i cs
    split at h
    · rename_i a b c d w s hc
      split at h
      · rename_i hg
        exact ⟨⟨a, b, c, d, w, s⟩, hg, by unfold kCells; congr 1; exact Array.toList_inj.1 (hc.trans rfl), by simp [kPl, hc]⟩
      · cases h
    · cases h
  · cases h
def SlvJ (w : World) (sb mb : Nat) : Prop := w.heap[sb]? = some (.cells #[.bool true, .map (some mb)] 83 (0, 0)) ∧ Mem Try.prog 60 3 kJ w mb
theorem SlvJ.ne {w : World} {sb mb : Nat} (h : SlvJ w sb mb) : sb ≠ mb := by
  intro e
  subst e
  obtain ⟨h1, es, clock, h2, _⟩ := h
  rw [h1] at h2
  cases h2
theorem SlvJ.below {w w' : World} {sb mb : Nat} (h : SlvJ w sb mb) (hb : Below w.heap.size w w') : SlvJ w' sb mb := ⟨blk_below h.1 hb, h.2.below hb⟩
def LeastJ (sb mb : Nat) (k : KS) : Prop := ∀ w, SlvJ w sb mb → Calls Try.prog 38 #[.pointer (some ⟨sb, 0, none⟩), kCells k] w fun e w' => e = .returned (.int .i64 (gJ k)) ∧ SlvJ w' sb mb ∧ w.grownBy w' (some mb)
def WithJ (sb mb : Nat) (k : KS) (t : Bool × Int) : Prop := ∀ w, SlvJ w sb mb → Calls Try.prog 62 #[.pointer (some ⟨sb, 0, none⟩), kCells k, .agg #[.bool t.1, .int .i64 t.2, .bool false]] w fun e w' => e = .returned (.int .i64 (gV k t)) ∧ SlvJ w' sb mb ∧ w.grownBy w' (some mb)
set_option maxHeartbeats 8000000 in
set_option maxRecDepth 100000 in
theorem withJ_of (sb mb : Nat) (k : KS) (hk : KGood k) (t : Bool × Int) (ht : t ∈ k.tests) (H0 : LeastJ sb mb (k.aft t.1 false t.2)) (H1 : LeastJ sb mb (k.aft t.1 true t.2)) : WithJ sb mb k t := by
  intro w hS
  have E0 := Aside0.mk (behind_is hk ht false)
  have E1 := Aside0.mk (behind_is hk ht true)
  have HS := Aside0.mk hS
  have hw1 := gV_lo k t
  have hw2 := gV_hi k t
  have HH := Aside0.mk (And.intro H0 H1)
  obtain ⟨q0, hq0⟩ : ∃ q, q = k.aft t.1 false t.2 := ⟨_, rfl⟩
  obtain ⟨q1, hq1⟩ : ∃ q, q = k.aft t.1 true t.2 := ⟨_, rfl⟩
  have hW : gV k t = 1 + max (gJ q0) (gJ q1) := by rw [hq0, hq1]; rfl
  rw [← hq0] at E0 HH
  rw [← hq1] at E1 HH
  clear H0 H1 hq0 hq1 hk ht
  obtain ⟨r, hr⟩ : ∃ r, r = gV k t := ⟨_, rfl⟩
  rw [← hr] at hw1 hw2 hW
  rw [← hr]
  have hkn : kNever = 1125899906842624 := rfl
  have w3 : IntKind.i64.wrap (1 + max (gJ q0) (gJ q1)) = r := by rw [← hW]; exact Hw.wrap_w (by omega) (by rw [hkn] at hw2; omega)
  clear hr hw1 hw2 hW hS hkn
  obtain ⟨a, b, c, d, e, f⟩ := k
  obtain ⟨st, fl⟩ := t
  go_enter Try.func62, Try.ntmps62
  go_upto_region 1 with (first | ((with_reducible refine gate_dst (N := 4) rfl ?_); refine box_event ?hg (N := 4) ?hd (cs := #[.int .i64 a, .int .i64 b, .int .i64 c, .int .i64 d, .int .i64 e, .int .i64 f]) (t := 60) ?hr ?_; (case hd => rfl); (case hg => rfl); (case hr => first | (go_simp; done) | (go_simp; rfl)); intro g1 hg_g1 w_g1 BK_g1 hb_g1; have n0_ := Aside0.mk (HS.out.below hb_g1); have n1_ := Aside0.mk (grown_below (grown_refl w (some mb)) hb_g1); have n2_ := Aside0.mk (BK_g1); have n3_ := Aside0.mk (show g1 ≠ mb by have := HS.out.2.lt; omega); (try clear HS); (try clear HG); (try clear B1); (try clear N1); have HS := n0_; have HG := n1_; have B1 := n2_; have N1 := n3_; clear n0_ n1_ n2_ n3_; clear hg_g1 BK_g1 hb_g1) | ((with_reducible refine gate_dst (N := 5) rfl ?_); refine box_event ?hg (N := 5) ?hd (cs := #[.bool st, .int .i64 fl, .bool false]) (t := 43) ?hr ?_; (case hd => rfl); (case hg => rfl); (case hr => first | (go_simp; done) | (go_simp; rfl)); intro g2 hg_g2 w_g2 BK_g2 hb_g2; have n0_ := Aside0.mk (HS.out.below hb_g2); have n1_ := Aside0.mk (grown_below HG.out hb_g2); have n2_ := Aside0.mk (BK_g2); have n3_ := Aside0.mk (show g2 ≠ mb by have := HS.out.2.lt; omega); have n4_ := Aside0.mk (show w.heap.size ≤ g2 by have := HG.out.size; omega); have n5_ := Aside0.mk (blk_below B1.out hb_g2); have n6_ := Aside0.mk (show g1 ≠ g2 by have := blk_lt B1.out; omega); (try clear HS); (try clear HG); (try clear B2); (try clear N2); (try clear P2); (try clear B1); (try clear N12); have HS := n0_; have HG := n1_; have B2 := n2_; have N2 := n3_; have P2 := n4_; have B1 := n5_; have N12 := n6_; clear n0_ n1_ n2_ n3_ n4_ n5_ n6_; clear hg_g2 BK_g2 hb_g2))
  have ha_0 : w_g2.cell? ⟨g1, 0, none⟩ = some (.int .i64 a) := (blk_cell B1.out 0).trans rfl
  have ha_1 : w_g2.cell? ⟨g1, 1, none⟩ = some (.int .i64 b) := (blk_cell B1.out 1).trans rfl
  have ha_2 : w_g2.cell? ⟨g1, 2, none⟩ = some (.int .i64 c) := (blk_cell B1.out 2).trans rfl
  have ha_3 : w_g2.cell? ⟨g1, 3, none⟩ = some (.int .i64 d) := (blk_cell B1.out 3).trans rfl
  have ha_4 : w_g2.cell? ⟨g1, 4, none⟩ = some (.int .i64 e) := (blk_cell B1.out 4).trans rfl
  have ha_5 : w_g2.cell? ⟨g1, 5, none⟩ = some (.int .i64 f) := (blk_cell B1.out 5).trans rfl
  have fa_0 := blk_frozen B1.out 0
  have fa_1 := blk_frozen B1.out 1
  have fa_2 := blk_frozen B1.out 2
  have fa_3 := blk_frozen B1.out 3
  have fa_4 := blk_frozen B1.out 4
  have fa_5 := blk_frozen B1.out 5
  have hb_0 : w_g2.cell? ⟨g2, 0, none⟩ = some (.bool st) := (blk_cell B2.out 0).trans rfl
  have hb_1 : w_g2.cell? ⟨g2, 1, none⟩ = some (.int .i64 fl) := (blk_cell B2.out 1).trans rfl
  have hb_2 : w_g2.cell? ⟨g2, 2, none⟩ = some (.bool false) := (blk_cell B2.out 2).trans rfl
  have fb_0 := blk_frozen B2.out 0
  have fb_1 := blk_frozen B2.out 1
  have fb_2 := blk_frozen B2.out 2
  go_upto_region 2 with (first | ((with_reducible refine gate_callee (f := 56) rfl ?_); refine goesL_ (some 11) rfl rfl Try.func56 (by kernel_rfl) rfl #[.agg #[.int .i64 a, .int .i64 b, .int .i64 c, .int .i64 d, .int .i64 e, .int .i64 f], .agg #[.bool st, .int .i64 fl, .bool false]] rfl (by (try simp only [List.map_toArray, List.map_cons, List.map_nil]); first | done | rfl) ?_; refine (impl_knowledge_behind.calls 9 a b c d e f st fl false _ _ _ _ _ _ _ E0.out).mono ?_; rintro e_ w_1 ⟨rfl, hb_⟩; refine ⟨_, rfl, ?_⟩; have n0_ := Aside0.mk (HS.out.below hb_); have n1_ := Aside0.mk (grown_below (r := some mb) (w0 := w) (by first | exact HG.out | exact grown_drew HG.out | exact grown_drewN HG.out _) hb_); have n2_ := Aside0.mk (blk_below B1.out hb_); have n3_ := Aside0.mk (blk_below B2.out hb_); (try clear HS); (try clear HG); (try clear B1); (try clear B2); have HS := n0_; have HG := n1_; have B1 := n2_; have B2 := n3_; clear n0_ n1_ n2_ n3_; clear hb_) | ((with_reducible refine gate_callee (f := 38) rfl ?_); refine goesL_ (some 12) rfl rfl Try.func38 (by kernel_rfl) rfl #[.pointer (some ⟨sb, 0, none⟩), .agg #[.int .i64 q0.a, .int .i64 q0.b, .int .i64 q0.c, .int .i64 q0.d, .int .i64 q0.w, .int .i64 q0.s]] rfl (by (try simp only [List.map_toArray, List.map_cons, List.map_nil]); first | done | rfl) ?_; refine (HH.out.1 _ HS.out).mono ?_; rintro e_ w_2 ⟨rfl, hs_, hg_⟩; refine ⟨_, rfl, ?_⟩; have n0_ := Aside0.mk (hs_); have n1_ := Aside0.mk (World.grownBy.trans (row := some mb) (a := w) (by first | exact HG.out | exact grown_drew HG.out | exact grown_drewN HG.out _) hg_); have n2_ := Aside0.mk (blk_grown B1.out hg_ (by simpa using N1.out)); have n3_ := Aside0.mk (blk_grown B2.out hg_ (by simpa using N2.out)); (try clear HS); (try clear HG); (try clear B1); (try clear B2); have HS := n0_; have HG := n1_; have B1 := n2_; have B2 := n3_; clear n0_ n1_ n2_ n3_; clear hs_ hg_))
  clear ha_0 fa_0 ha_1 fa_1 ha_2 fa_2 ha_3 fa_3 ha_4 fa_4 ha_5 fa_5
  clear hb_0 fb_0 hb_1 fb_1 hb_2 fb_2
  have hb_0 : w_2.cell? ⟨g2, 0, none⟩ = some (.bool st) := (blk_cell B2.out 0).trans rfl
  have hb_1 : w_2.cell? ⟨g2, 1, none⟩ = some (.int .i64 fl) := (blk_cell B2.out 1).trans rfl
  have hb_2 : w_2.cell? ⟨g2, 2, none⟩ = some (.bool false) := (blk_cell B2.out 2).trans rfl
  have fb_0 := blk_frozen B2.out 0
  have fb_1 := blk_frozen B2.out 1
  have fb_2 := blk_frozen B2.out 2
  go_upto_region 3 with (first | ((with_reducible refine gate_store (t := 4) (p := 13) rfl ?_); refine store_event (t := 4) (p := 13) (v := ?vo_w_3) (w1 := (w_2.setCell ⟨g2, 2, none⟩ (.bool true))) ?hg ?ho ?hn ?hr ?_; (case ho => rfl); (case hg => rfl); (case hn => rfl); (case hr => first | (go_simp; done) | (go_simp; rfl)); intro w_3 hw_; have n0_ := Aside0.mk ((by rw [hw_]; exact ⟨blk_far HS.out.1 (show sb ≠ g2 from fun e_ => by have h_ := HS.out.1; rw [e_, B2.out] at h_; cases h_) _, HS.out.2.same (Below.heap_setCell _ _ _ _ (fun e_ => N2.out e_.symm))⟩ : SlvJ w_3 sb mb)); have n1_ := Aside0.mk ((by rw [hw_]; exact grown_set HG.out P2.out : w.grownBy w_3 (some mb))); have n2_ := Aside0.mk ((by rw [hw_]; exact blk_far B1.out N12.out _ : w_3.heap[g1]? = some (.cells #[.int .i64 a, .int .i64 b, .int .i64 c, .int .i64 d, .int .i64 e, .int .i64 f] 60 (0, 0)))); have n3_ := Aside0.mk ((by rw [hw_]; exact blk_put B2.out 2 _ rfl : w_3.heap[g2]? = some (.cells #[.bool st, .int .i64 fl, .bool true] 43 (0, 0)))); (try clear HS); (try clear HG); (try clear B1); (try clear B2); have HS := n0_; have HG := n1_; have B1 := n2_; have B2 := n3_; clear n0_ n1_ n2_ n3_; clear hw_))
  clear hb_0 fb_0 hb_1 fb_1 hb_2 fb_2
  have ha_0 : w_3.cell? ⟨g1, 0, none⟩ = some (.int .i64 a) := (blk_cell B1.out 0).trans rfl
  have ha_1 : w_3.cell? ⟨g1, 1, none⟩ = some (.int .i64 b) := (blk_cell B1.out 1).trans rfl
  have ha_2 : w_3.cell? ⟨g1, 2, none⟩ = some (.int .i64 c) := (blk_cell B1.out 2).trans rfl
  have ha_3 : w_3.cell? ⟨g1, 3, none⟩ = some (.int .i64 d) := (blk_cell B1.out 3).trans rfl
  have ha_4 : w_3.cell? ⟨g1, 4, none⟩ = some (.int .i64 e) := (blk_cell B1.out 4).trans rfl
  have ha_5 : w_3.cell? ⟨g1, 5, none⟩ = some (.int .i64 f) := (blk_cell B1.out 5).trans rfl
  have fa_0 := blk_frozen B1.out 0
  have fa_1 := blk_frozen B1.out 1
  have fa_2 := blk_frozen B1.out 2
  have fa_3 := blk_frozen B1.out 3
  have fa_4 := blk_frozen B1.out 4
  have fa_5 := blk_frozen B1.out 5
  have hb_0 : w_3.cell? ⟨g2, 0, none⟩ = some (.bool st) := (blk_cell B2.out 0).trans rfl
  have hb_1 : w_3.cell? ⟨g2, 1, none⟩ = some (.int .i64 fl) := (blk_cell B2.out 1).trans rfl
  have hb_2 : w_3.cell? ⟨g2, 2, none⟩ = some (.bool true) := (blk_cell B2.out 2).trans rfl
  have fb_0 := blk_frozen B2.out 0
  have fb_1 := blk_frozen B2.out 1
  have fb_2 := blk_frozen B2.out 2
  have hmx : (if gJ q0 < gJ q1 then gJ q1 else gJ q0) = max (gJ q0) (gJ q1) := by split <;> omega
  go_wp2_with (first | ((with_reducible refine gate_callee (f := 56) rfl ?_); refine goesL_ (some 18) rfl rfl Try.func56 (by kernel_rfl) rfl #[.agg #[.int .i64 a, .int .i64 b, .int .i64 c, .int .i64 d, .int .i64 e, .int .i64 f], .agg #[.bool st, .int .i64 fl, .bool true]] rfl (by (try simp only [List.map_toArray, List.map_cons, List.map_nil]); first | done | rfl) ?_; refine (impl_knowledge_behind.calls 9 a b c d e f st fl true _ _ _ _ _ _ _ E1.out).mono ?_; rintro e_ w_4 ⟨rfl, hb_⟩; refine ⟨_, rfl, ?_⟩; have n0_ := Aside0.mk (HS.out.below hb_); have n1_ := Aside0.mk (grown_below (r := some mb) (w0 := w) (by first | exact HG.out | exact grown_drew HG.out | exact grown_drewN HG.out _) hb_); have n2_ := Aside0.mk (blk_below B1.out hb_); have n3_ := Aside0.mk (blk_below B2.out hb_); (try clear HS); (try clear HG); (try clear B1); (try clear B2); have HS := n0_; have HG := n1_; have B1 := n2_; have B2 := n3_; clear n0_ n1_ n2_ n3_; clear hb_) | ((with_reducible refine gate_callee (f := 38) rfl ?_); refine goesL_ (some 19) rfl rfl Try.func38 (by kernel_rfl) rfl #[.pointer (some ⟨sb, 0, none⟩), .agg #[.int .i64 q1.a, .int .i64 q1.b, .int .i64 q1.c, .int .i64 q1.d, .int .i64 q1.w, .int .i64 q1.s]] rfl (by (try simp only [List.map_toArray, List.map_cons, List.map_nil]); first | done | rfl) ?_; refine (HH.out.2 _ HS.out).mono ?_; rintro e_ w_5 ⟨rfl, hs_, hg_⟩; refine ⟨_, rfl, ?_⟩; have n0_ := Aside0.mk (hs_); have n1_ := Aside0.mk (World.grownBy.trans (row := some mb) (a := w) (by first | exact HG.out | exact grown_drew HG.out | exact grown_drewN HG.out _) hg_); have n2_ := Aside0.mk (blk_grown B1.out hg_ (by simpa using N1.out)); have n3_ := Aside0.mk (blk_grown B2.out hg_ (by simpa using N2.out)); (try clear HS); (try clear HG); (try clear B1); (try clear B2); have HS := n0_; have HG := n1_; have B1 := n2_; have B2 := n3_; clear n0_ n1_ n2_ n3_; clear hs_ hg_))
  go_ret
  exact ⟨rfl, HS.out, HG.out⟩
theorem slvJ_store {w : World} {sb mb : Nat} {k : KS} (h : SlvJ w sb mb) (hk : KGood k) : ∃ w', (Instr.mapUpdate 81 (.map (some mb)) (kCells k) (.int .i64 (gJ k))).run Try.prog w = .ok () w' ∧ SlvJ w' sb mb ∧ w.grownBy w' (some mb) := by
  obtain ⟨kl, hkl⟩ := kKey k hk
  have h0 := gJ_lo k
  have h1 := gJ_hi k
  have hkn : kNever = 1125899906842624 := rfl
  obtain ⟨w', h2, h3, h4⟩ := h.2.store kKeyed u115 Try.underlying3 kPl 38416 (by unfold maxLen; omega) (fun v n hv => by
    obtain ⟨k', hg, _, hp⟩ := kJ_inv hv
    rw [hp]; exact kPlace_lt hg) (fun u v m n hu hv hp => by
    obtain ⟨k1, hg1, e1, hp1⟩ := kJ_inv hu
    obtain ⟨k2, hg2, e2, hp2⟩ := kJ_inv hv
    rw [hp1, hp2] at hp
    rw [e1, e2, kPlace_inj hg1 hg2 hp]) hkl (kJ_is k hk) (wf_i (by omega) (by omega))
  exact ⟨w', h2, ⟨blk_grown h.1 h4 (by simpa using h.ne), h3⟩, h4⟩
set_option maxHeartbeats 8000000 in
set_option maxRecDepth 100000 in
theorem leastJ_of (sb mb : Nat) (k : KS) (hk : KGood k) (HW : ∀ t ∈ k.tests, WithJ sb mb k t) : LeastJ sb mb k := by
  intro w hS
  have HS := Aside0.mk hS
  have hs_0 : w.cell? ⟨sb, 0, none⟩ = some (.bool true) := (blk_cell hS.1 0).trans rfl
  clear hs_0
  have HT0 := tests_is hk
  have hTl := tests_len hk
  have hdone := doneJ_iff k
  have HD := Aside0.mk (@gJ_done k)
  have HE := Aside0.mk (fun h_ => gJ_eq hk h_)
  obtain ⟨kl, hkl⟩ := kKey k hk
  have HL := Aside0.mk (hS.2.look' kKeyed u115 z3 hkl (kJ_is k hk))
  have HU0 := Aside0.mk (fun (W : World) (hW : SlvJ W sb mb) => slvJ_store hW hk)
  have HWt0 := Aside0.mk HW
  have HLO := Aside0.mk (fun t : Bool × Int => And.intro (gV_lo k t) (gV_hi k t))
  obtain ⟨x, hx⟩ : ∃ x, x = gJ k := ⟨_, rfl⟩
  rw [← hx] at HD HE HL HU0
  rw [← hx]
  clear hS hkl HW hx
  obtain ⟨T, hT⟩ : ∃ T, T = k.tests.map kS := ⟨_, rfl⟩
  rw [← hT] at HT0
  have HT := Aside0.mk HT0
  have HTT := Aside0.mk hT
  have HTl := Aside0.mk hTl
  clear HT0 hT hTl
  obtain ⟨a, b, c, d, e, f⟩ := k
  simp only at hdone
  go_enter Try.func38, Try.ntmps38
  go_upto_region 1 with (first | ((with_reducible refine gate_dst (N := 3) rfl ?_); refine box_event ?hg (N := 3) ?hd (cs := #[.int .i64 a, .int .i64 b, .int .i64 c, .int .i64 d, .int .i64 e, .int .i64 f]) (t := 60) ?hr ?_; (case hd => rfl); (case hg => rfl); (case hr => first | (go_simp; done) | (go_simp; rfl)); intro g1 hg_g1 w_g1 BK_g1 hb_g1; have n0_ := Aside0.mk (HS.out.below hb_g1); have n1_ := Aside0.mk (grown_below (grown_refl w (some mb)) hb_g1); have n2_ := Aside0.mk (BK_g1); have n3_ := Aside0.mk (show g1 ≠ mb by have := HS.out.2.lt; omega); have n4_ := Aside0.mk ((hb_g1.block mb HS.out.2.lt : w_g1.heap[mb]? = w.heap[mb]?)); (try clear HS); (try clear HG); (try clear B1); (try clear N1); (try clear HM); have HS := n0_; have HG := n1_; have B1 := n2_; have N1 := n3_; have HM := n4_; clear n0_ n1_ n2_ n3_ n4_; clear hg_g1 BK_g1 hb_g1))
  have ha_0 : w_g1.cell? ⟨g1, 0, none⟩ = some (.int .i64 a) := (blk_cell B1.out 0).trans rfl
  have ha_1 : w_g1.cell? ⟨g1, 1, none⟩ = some (.int .i64 b) := (blk_cell B1.out 1).trans rfl
  have ha_2 : w_g1.cell? ⟨g1, 2, none⟩ = some (.int .i64 c) := (blk_cell B1.out 2).trans rfl
  have ha_3 : w_g1.cell? ⟨g1, 3, none⟩ = some (.int .i64 d) := (blk_cell B1.out 3).trans rfl
  have ha_4 : w_g1.cell? ⟨g1, 4, none⟩ = some (.int .i64 e) := (blk_cell B1.out 4).trans rfl
  have ha_5 : w_g1.cell? ⟨g1, 5, none⟩ = some (.int .i64 f) := (blk_cell B1.out 5).trans rfl
  have fa_0 := blk_frozen B1.out 0
  have fa_1 := blk_frozen B1.out 1
  have fa_2 := blk_frozen B1.out 2
  have fa_3 := blk_frozen B1.out 3
  have fa_4 := blk_frozen B1.out 4
  have fa_5 := blk_frozen B1.out 5
  have hs_0 : w_g1.cell? ⟨sb, 0, none⟩ = some (.bool true) := (blk_cell HS.out.1 0).trans rfl
  have hs_1 : w_g1.cell? ⟨sb, 1, none⟩ = some (.map (some mb)) := (blk_cell HS.out.1 1).trans rfl
  have hg_0 := blk_frozen HS.out.1 0
  have hg_1 := blk_frozen HS.out.1 1
  by_cases hd : (⟨a, b, c, d, e, f⟩ : KS).doneJ = true
  · have hd2 := hdone.1 hd
    have e1 : (a == b) = true := by simpa using hd2
    have hx0 := HD.out hd
    clear hd hd2 hdone
    go_wp2
    go_ret
    exact ⟨rfl, HS.out, HG.out⟩
  · have hnd : ¬ (a = b) := fun h_ => hd (hdone.2 h_)
    have hE := Aside0.mk (HE.out (by simpa using hd))
    clear hd hdone HD HE
    have e1 : (a == b) = false := by simpa using hnd
    have HND := Aside0.mk hnd
    clear hnd
    all_goals
      rcases HL.out with HL1 | HL1
      · have HLk := Aside0.mk HL1
        clear HL1 HL
        have l1 := HLk.out w_g1 HM.out
        have l2 := HLk.out w_g1.drew HM.out
        have l3 := fun n_ => HLk.out (w_g1.drewN n_) HM.out
        simp only [kCells] at l1 l2 l3
        go_upto_region 3 with fail
        go_quiet (fail)
        clear l1 l2 l3
        obtain ⟨w_q, hwq⟩ : ∃ W, W = w_g1.drewN nq := ⟨_, rfl⟩
        rw [← hwq]
        have n0_ : Aside0 (SlvJ w_q sb mb) := ⟨by rw [hwq]; exact HS.out⟩
        have n1_ : Aside0 (w.grownBy w_q (some mb)) := ⟨by rw [hwq]; exact grown_drewN HG.out _⟩
        have n2_ : Aside0 (w_q.heap[g1]? = some (.cells #[.int .i64 a, .int .i64 b, .int .i64 c, .int .i64 d, .int .i64 e, .int .i64 f] 60 (0, 0))) := ⟨by rw [hwq]; exact B1.out⟩
        clear HS HG B1 hwq HM
        clear ha_0 fa_0 ha_1 fa_1 ha_2 fa_2 ha_3 fa_3 ha_4 fa_4 ha_5 fa_5
        clear hs_0 hs_1 hg_0 hg_1
        have HS := n0_
        have HG := n1_
        have B1 := n2_
        clear n0_ n1_ n2_
        go_upto_region 7 with fail
        have ha_0 : w_q.cell? ⟨g1, 0, none⟩ = some (.int .i64 a) := (blk_cell B1.out 0).trans rfl
        have ha_1 : w_q.cell? ⟨g1, 1, none⟩ = some (.int .i64 b) := (blk_cell B1.out 1).trans rfl
        have ha_2 : w_q.cell? ⟨g1, 2, none⟩ = some (.int .i64 c) := (blk_cell B1.out 2).trans rfl
        have ha_3 : w_q.cell? ⟨g1, 3, none⟩ = some (.int .i64 d) := (blk_cell B1.out 3).trans rfl
        have ha_4 : w_q.cell? ⟨g1, 4, none⟩ = some (.int .i64 e) := (blk_cell B1.out 4).trans rfl
        have ha_5 : w_q.cell? ⟨g1, 5, none⟩ = some (.int .i64 f) := (blk_cell B1.out 5).trans rfl
        have fa_0 := blk_frozen B1.out 0
        have fa_1 := blk_frozen B1.out 1
        have fa_2 := blk_frozen B1.out 2
        have fa_3 := blk_frozen B1.out 3
        have fa_4 := blk_frozen B1.out 4
        have fa_5 := blk_frozen B1.out 5
        go_wp2_with (first | ((with_reducible refine gate_callee (f := 61) rfl ?_); refine goesL_ (some 40) rfl rfl Try.func61 (by kernel_rfl) rfl #[.agg #[.int .i64 a, .int .i64 b, .int .i64 c, .int .i64 d, .int .i64 e, .int .i64 f]] rfl (by (try simp only [List.map_toArray, List.map_cons, List.map_nil]); first | done | rfl) ?_; refine (impl_knowledge_tests.calls 30 a b c d e f _ _ HT.out).mono ?_; rintro e_ w_2 ⟨v_, rfl, hr_, hb_⟩; refine ⟨_, rfl, ?_⟩; obtain ⟨A_, c_, rfl⟩ := Kd.R_slice hr_; have n0_ := Aside0.mk ((Kd.R_mono (Kd.R_lower (Kd.R_bound hr_) (Nat.zero_le _)) (fun k_ hk_ => ⟨show k_ ≠ mb by have h_ := HS.out.2.lt; have h2_ := hk_.2.1; omega, hk_.2.2.1⟩) : Kd.R k43 43 w_2 0 (fun k_ => k_ ≠ mb ∧ k_ < w_2.heap.size) (.slice A_ T.length c_) T)); have n1_ := Aside0.mk (Nat.le_refl w_2.heap.size); have n2_ := Aside0.mk (HS.out.below hb_); have n3_ := Aside0.mk (grown_below (r := some mb) (w0 := w) (by first | exact HG.out | exact grown_drew HG.out | exact grown_drewN HG.out _) hb_); have n4_ := Aside0.mk (blk_below B1.out hb_); (try clear HR); (try clear HZ); (try clear HS); (try clear HG); (try clear B1); have HR := n0_; have HZ := n1_; have HS := n2_; have HG := n3_; have B1 := n4_; clear n0_ n1_ n2_ n3_ n4_; clear hb_ hr_))
        clear ha_0 fa_0 ha_1 fa_1 ha_2 fa_2 ha_3 fa_3 ha_4 fa_4 ha_5 fa_5
        obtain ⟨KT, hKT⟩ : ∃ KT, KT = (⟨a, b, c, d, e, f⟩ : KS).tests := ⟨_, rfl⟩
        rw [← hKT] at HTT hE HTl
        have hlen : T.length = KT.length := by rw [HTT.out, List.length_map]
        have HN := Aside0.mk hlen
        clear hlen
        have HKT := Aside0.mk hKT
        clear hKT
        go_loopg [7, 42] T.length (fun n v7 v42 w' => ∃ i : Nat, v42 = .int .i64 i ∧ v7 = .int .i64 (kFold (gV ⟨a, b, c, d, e, f⟩) kNever (KT.take i)) ∧ Aside0 (i + n = T.length) ∧ Aside0 (Kd.R k43 43 w' 0 (fun k_ => k_ ≠ mb ∧ k_ < w_2.heap.size) (.slice A_ T.length c_) T) ∧ Aside0 (SlvJ w' sb mb) ∧ Aside0 (w.grownBy w' (some mb)) ∧ Aside0 (w_2.heap.size ≤ w'.heap.size) ∧ Aside0 (w'.heap[g1]? = some (.cells #[.int .i64 a, .int .i64 b, .int .i64 c, .int .i64 d, .int .i64 e, .int .i64 f] 60 (0, 0))))
        case atStart => exact ⟨0, rfl, rfl, ⟨by omega⟩, HR, HS, HG, HZ, B1⟩
        case round =>
          clear HR HS HG HZ B1
          obtain ⟨i, rfl, rfl, HI, HR, HS, HG, HZ, B1⟩ := hrel
          by_cases hlt : i < T.length
          · have p0 : (0 : Int) ≤ (i : Int) := by omega
            have q0 : (i : Int) < (T.length : Int) := by omega
            obtain ⟨ad, ead, x_0, x_1, x_2⟩ := at_T43 (Kd.R_reads' HR.out).2.2 (i : Int) p0 q0
            cases ead
            have hik : i < KT.length := by have := HN.out; omega
            obtain ⟨tt, htt⟩ : ∃ tt, tt = KT[i] := ⟨_, rfl⟩
            have hrd : rd_T43 T (i : Int) = kS tt := by rw [htt, HTT.out]; unfold rd_T43; simp [hik]
            rw [hrd] at x_0 x_1 x_2
            have hmem : tt ∈ KT := by rw [htt]; exact List.getElem_mem hik
            have htake : KT.take (i + 1) = KT.take i ++ [tt] := by rw [htt]; exact (List.take_append_getElem hik).symm
            obtain ⟨m, hm⟩ : ∃ m, m = kFold (gV ⟨a, b, c, d, e, f⟩) kNever (KT.take i) := ⟨_, rfl⟩
            obtain ⟨m2, hm2⟩ : ∃ m2, m2 = kFold (gV ⟨a, b, c, d, e, f⟩) kNever (KT.take (i + 1)) := ⟨_, rfl⟩
            obtain ⟨gw, hgw⟩ : ∃ gw, gw = gV ⟨a, b, c, d, e, f⟩ tt := ⟨_, rfl⟩
            have hmin : (if gw < m then gw else m) = m2 := by rw [hm2, htake, kFold_snoc, ← hm, ← hgw]; split <;> omega
            have HWt := Aside0.mk (HWt0.out tt (by rw [← HKT.out]; exact hmem))
            unfold WithJ at HWt
            rw [← hgw] at HWt
            rw [← hm]
            obtain ⟨st, fl⟩ := tt
            simp only [kS, Int.toNat_natCast] at x_0 x_1 x_2
            have c0 : decide ((i : Int) < (T.length : Int)) = true := decide_eq_true q0
            have c0n : decide (i < T.length) = true := decide_eq_true hlt
            have c1 : decide (0 ≤ (i : Int)) = true := decide_eq_true p0
            have w1 : IntKind.i64.wrap ((i : Int) + 1) = ((i + 1 : Nat) : Int) := by rw [Hw.wrap_w (by have := HI.out; have := HTl.out; have := HN.out; omega) (by have := HI.out; have := HTl.out; have := HN.out; omega)]; omega
            have HQ := Aside0.mk hm2
            replace p0 := eq_true p0
            replace q0 := eq_true q0
            have HLT := Aside0.mk hlt
            clear hlt hik htt hrd hmem htake hm hm2 hgw
            go_upto_region 10 with (first | ((with_reducible refine gate_dst (N := 9) rfl ?_); refine box_event ?hg (N := 9) ?hd (cs := #[.bool false, .int .i64 0, .bool false]) (t := 43) ?hr ?_; (case hd => rfl); (case hg => rfl); (case hr => first | (go_simp; done) | (go_simp; rfl)); intro g3 hg_g3 w_g3 BK_g3 hb_g3; have n0_ := Aside0.mk (HS.out.below hb_g3); have n1_ := Aside0.mk (grown_below (r := some mb) (w0 := w) (by first | exact HG.out | exact grown_drew HG.out | exact grown_drewN HG.out _) hb_g3); have n2_ := Aside0.mk (show w.heap.size ≤ g3 by have := HG.out.size; omega); have n3_ := Aside0.mk (BK_g3); have n4_ := Aside0.mk (show g3 ≠ mb by have := HS.out.2.lt; omega); have n5_ := Aside0.mk (blk_below B1.out hb_g3); have n6_ := Aside0.mk (show g1 ≠ g3 by have := blk_lt B1.out; omega); have n7_ := Aside0.mk (Kd.R_below HR.out hb_g3); have n8_ := Aside0.mk (show sb ≠ g3 by have := blk_lt HS.out.1; omega); have n9_ := Aside0.mk (show mb ≠ g3 by have := HS.out.2.lt; omega); have n10_ := Aside0.mk (show w_2.heap.size ≤ g3 by have := HZ.out; omega); have n11_ := Aside0.mk (Nat.le_trans HZ.out hb_g3.size); (try clear HS); (try clear HG); (try clear P3); (try clear B3); (try clear N3); (try clear B1); (try clear N13); (try clear HR); (try clear S3); (try clear N3'); (try clear Z3); (try clear HZ); have HS := n0_; have HG := n1_; have P3 := n2_; have B3 := n3_; have N3 := n4_; have B1 := n5_; have N13 := n6_; have HR := n7_; have S3 := n8_; have N3' := n9_; have Z3 := n10_; have HZ := n11_; clear n0_ n1_ n2_ n3_ n4_ n5_ n6_ n7_ n8_ n9_ n10_ n11_; clear hg_g3 BK_g3 hb_g3; have h3_0 : w_g3.cell? ⟨g3, 0, none⟩ = some (.bool false) := (blk_cell B3.out 0).trans rfl; have f3_0 := blk_frozen B3.out 0; have h3_1 : w_g3.cell? ⟨g3, 1, none⟩ = some (.int .i64 0) := (blk_cell B3.out 1).trans rfl; have f3_1 := blk_frozen B3.out 1; have h3_2 : w_g3.cell? ⟨g3, 2, none⟩ = some (.bool false) := (blk_cell B3.out 2).trans rfl; have f3_2 := blk_frozen B3.out 2) | ((with_reducible refine gate_store (t := 43) (p := 9) rfl ?_); refine store_event (t := 43) (p := 9) (v := ?vo_w_4) (w1 := (((w_g3.setCell ⟨g3, 0, none⟩ (.bool st)).setCell ⟨g3, 1, none⟩ (.int .i64 fl)).setCell ⟨g3, 2, none⟩ (.bool false))) ?hg ?ho ?hn ?hr ?_; (case ho => rfl); (case hg => rfl); (case hn => rfl); (case hr => first | (go_simp; done) | (go_simp; rfl)); intro w_4 hw_; have n0_ := Aside0.mk ((by rw [hw_]; exact ⟨blk_far (blk_far (blk_far HS.out.1 S3.out _) S3.out _) S3.out _, HS.out.2.same ((Below.heap_setCell _ _ _ _ N3'.out).trans ((Below.heap_setCell _ _ _ _ N3'.out).trans (Below.heap_setCell _ _ _ _ N3'.out)))⟩ : SlvJ w_4 sb mb)); have n1_ := Aside0.mk ((by rw [hw_]; exact grown_set (grown_set (grown_set HG.out P3.out) P3.out) P3.out : w.grownBy w_4 (some mb))); have n2_ := Aside0.mk ((by rw [hw_]; exact blk_far (blk_far (blk_far B1.out N13.out _) N13.out _) N13.out _ : w_4.heap[g1]? = some (.cells #[.int .i64 a, .int .i64 b, .int .i64 c, .int .i64 d, .int .i64 e, .int .i64 f] 60 (0, 0)))); have n3_ := Aside0.mk ((by rw [hw_]; exact blk_put (blk_put (blk_put B3.out 0 _ rfl) 1 _ rfl) 2 _ rfl : w_4.heap[g3]? = some (.cells #[.bool st, .int .i64 fl, .bool false] 43 (0, 0)))); have n4_ := Aside0.mk ((by rw [hw_]; simpa [World.setCell] using HZ.out : w_2.heap.size ≤ w_4.heap.size)); have n5_ := Aside0.mk ((by rw [hw_]; exact Kd.R_far (Kd.R_far (Kd.R_far HR.out (fun k_ hk_ => Nat.ne_of_lt (Nat.lt_of_lt_of_le hk_.2 Z3.out)) _) (fun k_ hk_ => Nat.ne_of_lt (Nat.lt_of_lt_of_le hk_.2 Z3.out)) _) (fun k_ hk_ => Nat.ne_of_lt (Nat.lt_of_lt_of_le hk_.2 Z3.out)) _ : Kd.R k43 43 w_4 0 (fun k_ => k_ ≠ mb ∧ k_ < w_2.heap.size) (.slice (some ad) T.length c_) T)); (try clear HS); (try clear HG); (try clear B1); (try clear B3); (try clear HZ); (try clear HR); have HS := n0_; have HG := n1_; have B1 := n2_; have B3 := n3_; have HZ := n4_; have HR := n5_; clear n0_ n1_ n2_ n3_ n4_ n5_; clear hw_))
            have ha_0 : w_4.cell? ⟨g1, 0, none⟩ = some (.int .i64 a) := (blk_cell B1.out 0).trans rfl
            have ha_1 : w_4.cell? ⟨g1, 1, none⟩ = some (.int .i64 b) := (blk_cell B1.out 1).trans rfl
            have ha_2 : w_4.cell? ⟨g1, 2, none⟩ = some (.int .i64 c) := (blk_cell B1.out 2).trans rfl
            have ha_3 : w_4.cell? ⟨g1, 3, none⟩ = some (.int .i64 d) := (blk_cell B1.out 3).trans rfl
            have ha_4 : w_4.cell? ⟨g1, 4, none⟩ = some (.int .i64 e) := (blk_cell B1.out 4).trans rfl
            have ha_5 : w_4.cell? ⟨g1, 5, none⟩ = some (.int .i64 f) := (blk_cell B1.out 5).trans rfl
            have fa_0 := blk_frozen B1.out 0
            have fa_1 := blk_frozen B1.out 1
            have fa_2 := blk_frozen B1.out 2
            have fa_3 := blk_frozen B1.out 3
            have fa_4 := blk_frozen B1.out 4
            have fa_5 := blk_frozen B1.out 5
            have hb_0 : w_4.cell? ⟨g3, 0, none⟩ = some (.bool st) := (blk_cell B3.out 0).trans rfl
            have hb_1 : w_4.cell? ⟨g3, 1, none⟩ = some (.int .i64 fl) := (blk_cell B3.out 1).trans rfl
            have hb_2 : w_4.cell? ⟨g3, 2, none⟩ = some (.bool false) := (blk_cell B3.out 2).trans rfl
            have fb_0 := blk_frozen B3.out 0
            have fb_1 := blk_frozen B3.out 1
            have fb_2 := blk_frozen B3.out 2
            go_wp2_with (first | ((with_reducible refine gate_callee (f := 62) rfl ?_); refine goesL_ (some 50) rfl rfl Try.func62 (by kernel_rfl) rfl #[.pointer (some ⟨sb, 0, none⟩), .agg #[.int .i64 a, .int .i64 b, .int .i64 c, .int .i64 d, .int .i64 e, .int .i64 f], .agg #[.bool st, .int .i64 fl, .bool false]] rfl (by (try simp only [List.map_toArray, List.map_cons, List.map_nil]); first | done | rfl) ?_; refine (HWt.out _ HS.out).mono ?_; rintro e_ w_5 ⟨rfl, hs_, hg_⟩; refine ⟨_, rfl, ?_⟩; have n0_ := Aside0.mk (Kd.R_grown (row := some mb) HR.out hg_ (fun k_ hk_ h_ => hk_.1 (Option.some.inj h_))); have n1_ := Aside0.mk (Nat.le_trans HZ.out hg_.size); have n2_ := Aside0.mk (hs_); have n3_ := Aside0.mk (World.grownBy.trans (row := some mb) (a := w) (by first | exact HG.out | exact grown_drew HG.out | exact grown_drewN HG.out _) hg_); have n4_ := Aside0.mk (blk_grown B1.out hg_ (by simpa using N1.out)); (try clear HR); (try clear HZ); (try clear HS); (try clear HG); (try clear B1); have HR := n0_; have HZ := n1_; have HS := n2_; have HG := n3_; have B1 := n4_; clear n0_ n1_ n2_ n3_ n4_; clear hs_ hg_))
            go_roundg (T.length - (i + 1))
            case measure => have := HI.out; have := HLT.out; omega
            case rel => exact ⟨i + 1, rfl, congrArg (Value.int .i64) HQ.out, ⟨by have := HI.out; have := HLT.out; omega⟩, HR, HS, HG, HZ, B1⟩
          · have hgk : gk = 0 := by have := HI.out; omega
            have c0 : decide ((i : Int) < (T.length : Int)) = false := decide_eq_false (by omega)
            have c0n : decide (i < T.length) = false := decide_eq_false hlt
            have hall : kFold (gV ⟨a, b, c, d, e, f⟩) kNever (KT.take i) = x := by rw [hE.out, List.take_of_length_le (by have := HN.out; omega)]
            rw [hall]
            clear hlt hgk hall
            have ha_0 : wr.cell? ⟨g1, 0, none⟩ = some (.int .i64 a) := (blk_cell B1.out 0).trans rfl
            have ha_1 : wr.cell? ⟨g1, 1, none⟩ = some (.int .i64 b) := (blk_cell B1.out 1).trans rfl
            have ha_2 : wr.cell? ⟨g1, 2, none⟩ = some (.int .i64 c) := (blk_cell B1.out 2).trans rfl
            have ha_3 : wr.cell? ⟨g1, 3, none⟩ = some (.int .i64 d) := (blk_cell B1.out 3).trans rfl
            have ha_4 : wr.cell? ⟨g1, 4, none⟩ = some (.int .i64 e) := (blk_cell B1.out 4).trans rfl
            have ha_5 : wr.cell? ⟨g1, 5, none⟩ = some (.int .i64 f) := (blk_cell B1.out 5).trans rfl
            have fa_0 := blk_frozen B1.out 0
            have fa_1 := blk_frozen B1.out 1
            have fa_2 := blk_frozen B1.out 2
            have fa_3 := blk_frozen B1.out 3
            have fa_4 := blk_frozen B1.out 4
            have fa_5 := blk_frozen B1.out 5
            have hs_0 : wr.cell? ⟨sb, 0, none⟩ = some (.bool true) := (blk_cell HS.out.1 0).trans rfl
            have hs_1 : wr.cell? ⟨sb, 1, none⟩ = some (.map (some mb)) := (blk_cell HS.out.1 1).trans rfl
            have hg_0 := blk_frozen HS.out.1 0
            have hg_1 := blk_frozen HS.out.1 1
            go_wp2_with fail
            go_still_tail 6, (by kernel_rfl)
            change wpList _ _ _ _ _ wr.drew
            obtain ⟨w_u, hu1, hu2, hu3⟩ := HU0.out wr.drew HS.out
            go_wp2_with (first | (at_mapUpdate; refine Hm.at_store rfl rfl _ _ _ 81 rfl mb (kCells ⟨a, b, c, d, e, f⟩) (.int .i64 x) w_u rfl rfl rfl hu1 ?_))
            go_ret
            exact ⟨rfl, hu2, World.grownBy.trans (grown_drew HG.out) hu3⟩
      · have HLk := Aside0.mk HL1
        clear HL1 HL
        have l1 := HLk.out w_g1 HM.out
        have l2 := HLk.out w_g1.drew HM.out
        have l3 := fun n_ => HLk.out (w_g1.drewN n_) HM.out
        simp only [kCells] at l1 l2 l3
        go_upto_region 3 with fail
        go_quiet (fail)
        go_wp2
        go_ret
        exact ⟨rfl, HS.out, grown_drewN HG.out _⟩
theorem solverJ_ok (sb mb : Nat) : ∀ (n : Nat) (k : KS), KGood k → k.ms ≤ n → LeastJ sb mb k ∧ ∀ t ∈ k.tests, WithJ sb mb k t
  | 0, k, hk, hn => by
    have hw : ∀ t ∈ k.tests, WithJ sb mb k t := fun t ht => by have := (aft_good hk ht false).2; omega
    exact ⟨leastJ_of sb mb k hk hw, hw⟩
  | n + 1, k, hk, hn => by
    have hw : ∀ t ∈ k.tests, WithJ sb mb k t := fun t ht => by
      have a0 := aft_good hk ht false
      have a1 := aft_good hk ht true
      exact withJ_of sb mb k hk t ht (solverJ_ok sb mb n _ a0.1 (by omega)).1 (solverJ_ok sb mb n _ a1.1 (by omega)).1
    exact ⟨leastJ_of sb mb k hk hw, hw⟩
set_option maxHeartbeats 4000000 in
set_option maxRecDepth 100000 in
theorem newSolverJ.calls (w : World) : Calls Try.prog 30 #[.bool true] w fun e w' => e = .returned (sPtr (w.heap.size + 1)) ∧ SlvJ w' (w.heap.size + 1) w.heap.size ∧ Below w.heap.size w w' := by
  have hmk : ∀ w : World, (Instr.makeMap 81 none).run Try.prog w = .ok (.map (some w.heap.size)) (w.alloc (.map #[] 0)) := fun _ => rfl
  go_enter Try.func30, Try.ntmps30
  go_wp2
  go_ret
  refine ⟨rfl, ⟨?_, (Hm.Mem.made _ _ _ _ _).alloc _⟩, below_alloc (below_alloc (Below.refl _ _) _) _⟩
  have h_ := blk_new (w.alloc (.map #[] 0)) (.cells #[.bool true, .map (some w.heap.size)] 83 (0, 0))
  rwa [World.size_alloc] at h_
def impl_FewestForWeak.f (a0 a1 a2 : Int) : Option (Int × Bool) := some (if kAsk a0 a1 a2 then (gJ (kStart a0 a1 a2), true) else (0, false))
set_option maxHeartbeats 8000000 in
set_option maxRecDepth 100000 in
theorem impl_FewestForWeak.calls (a0 : Int) (a1 : Int) (a2 : Int) (r1 : Int) (r2 : Bool) (w : World) (h : impl_FewestForWeak.f a0 a1 a2 = some (r1, r2)) :
    Calls Try.prog 14 #[.int .i64 a0, .int .i64 a1, .int .i64 a2] w fun e w' => e = .returned (.tuple #[.int .i64 r1, .bool r2]) ∧ Below w.heap.size w w' := by
  have HB := Aside0.mk (Below.refl w.heap.size w)
  obtain ⟨b1, hb1⟩ : ∃ b, b = kAsk a0 a1 a2 := ⟨_, rfl⟩
  have e1 := isKindHouse_is a0 a1 a2
  unfold impl_FewestForWeak.f at h
  rw [← hb1] at e1 h
  have HC := Aside0.mk e1
  have HC1 := Aside0.mk hb1
  clear e1 hb1
  cases b1 with
  | false =>
    simp only [Bool.false_eq_true, if_false, Option.some.injEq, Prod.mk.injEq] at h
    obtain ⟨rfl, rfl⟩ := h
    go_enter Try.func14, Try.ntmps14
    go_wp2_with (first | ((with_reducible refine gate_callee (f := 28) rfl ?_); refine goesL_ (some 11) rfl rfl Try.func28 (by kernel_rfl) rfl #[.int .i64 a0, .int .i64 a1, .int .i64 a2] rfl (by (try simp only [List.map_toArray, List.map_cons, List.map_nil]); first | done | rfl) ?_; refine (impl_isKindHouse.calls _ _ _ _ _ HC.out).mono ?_; rintro e_ w_1 ⟨rfl, hd_⟩; refine ⟨_, rfl, ?_⟩; have hb_ := hd_.below; clear hd_; have n0_ : Aside0 (Below w.heap.size w w_1) := ⟨Hx.bb_below hb_ (by first | exact HB.out | exact below_drew1 HB.out | exact pw_below_drewN HB.out _)⟩; (try clear HB); have HB := n0_; clear n0_; clear hb_))
    go_ret2
    exact ⟨rfl, HB.out⟩
  | true =>
    simp only [if_true, Option.some.injEq, Prod.mk.injEq] at h
    obtain ⟨rfl, rfl⟩ := h
    have HS0 := Aside0.mk (kAsk_good HC1.out.symm)
    go_enter Try.func14, Try.ntmps14
    go_wp2_with (first | ((with_reducible refine gate_callee (f := 28) rfl ?_); refine goesL_ (some 11) rfl rfl Try.func28 (by kernel_rfl) rfl #[.int .i64 a0, .int .i64 a1, .int .i64 a2] rfl (by (try simp only [List.map_toArray, List.map_cons, List.map_nil]); first | done | rfl) ?_; refine (impl_isKindHouse.calls _ _ _ _ _ HC.out).mono ?_; rintro e_ w_1 ⟨rfl, hd_⟩; refine ⟨_, rfl, ?_⟩; have hb_ := hd_.below; clear hd_; have n0_ : Aside0 (Below w.heap.size w w_1) := ⟨Hx.bb_below hb_ (by first | exact HB.out | exact below_drew1 HB.out | exact pw_below_drewN HB.out _)⟩; (try clear HB); have HB := n0_; clear n0_; clear hb_) | ((with_reducible refine gate_callee (f := 30) rfl ?_); refine goesL_ (some 13) rfl rfl Try.func30 (by kernel_rfl) rfl #[.bool true] rfl (by (try simp only [List.map_toArray, List.map_cons, List.map_nil]); first | done | rfl) ?_; refine (newSolverJ.calls _).mono ?_; rintro e_ w_3 ⟨rfl, hs_, hb_⟩; refine ⟨_, rfl, ?_⟩; have ZZ := Aside0.mk (show w.heap.size ≤ w_1.heap.size from HB.out.size); have n0_ : Aside0 (Below w.heap.size w w_3) := ⟨Hx.bb_below hb_ (by first | exact HB.out | exact below_drew1 HB.out | exact pw_below_drewN HB.out _)⟩; have m0_ : Aside0 (SlvJ w_3 (w_1.heap.size + 1) w_1.heap.size) := ⟨hs_⟩; (try clear HB); have HB := n0_; have HS := m0_; clear n0_ m0_; clear hs_ hb_) | ((with_reducible refine gate_callee (f := 32) rfl ?_); refine goesL_ (some 17) rfl rfl Try.func32 (by kernel_rfl) rfl #[.int .i64 a0, .int .i64 a1, .int .i64 a2] rfl (by (try simp only [List.map_toArray, List.map_cons, List.map_nil]); first | done | rfl) ?_; refine (impl_nothing.calls a0 a1 a2 _ _ _ _ _ _ _ rfl).mono ?_; rintro e_ w_4 ⟨rfl, hb_⟩; refine ⟨_, rfl, ?_⟩; have n0_ : Aside0 (Below w.heap.size w w_4) := ⟨Hx.bb_below hb_ (by first | exact HB.out | exact below_drew1 HB.out | exact pw_below_drewN HB.out _)⟩; have n1_ : Aside0 (SlvJ w_4 (w_1.heap.size + 1) w_1.heap.size) := ⟨SlvJ.below HS.out hb_⟩; (try clear HB); (try clear HS); have HB := n0_; have HS := n1_; clear n0_ n1_; clear hb_) | ((with_reducible refine gate_callee (f := 38) rfl ?_); refine goesL_ (some 18) rfl rfl Try.func38 (by kernel_rfl) rfl #[.pointer (some ⟨w_1.heap.size + 1, 0, none⟩), .agg #[.int .i64 0, .int .i64 a2, .int .i64 0, .int .i64 a2, .int .i64 a0, .int .i64 a1]] rfl (by (try simp only [List.map_toArray, List.map_cons, List.map_nil]); first | done | rfl) ?_; refine ((solverJ_ok (w_1.heap.size + 1) w_1.heap.size _ (kStart a0 a1 a2) HS0.out.1 (Nat.le_refl _)).1 w_4 HS.out).mono ?_; rintro e_ w_5 ⟨rfl, hs_, hg_⟩; refine ⟨_, rfl, ?_⟩; have HB5 := Aside0.mk (Hx.bb_grown HB.out hg_ ZZ.out); clear HB HS hs_ hg_; have HB := HB5; clear HB5))
    go_ret2
    exact ⟨rfl, HB.out⟩


-- FOR spec.FewestForWeak
-- KIND rounds=0 making=1
-- CALLS spec.PlayKinds ; spec.kiAsked ; spec.kiStart ; spec.kiTable ; spec.kiPlay ; impl.FewestForWeak ; spec.FewestKinds
def sJ (k : KS) : Int := min 1000 (gJ k)
def sV (k : KS) (t : Bool × Int) : Int := min 1000 (gV k t)
theorem sJ_lo (k : KS) : 0 ≤ sJ k := by unfold sJ; have := gJ_lo k; omega
theorem sJ_hi (k : KS) : sJ k ≤ 1000 := by unfold sJ; omega
theorem sV_is (k : KS) (t : Bool × Int) : sV k t = min 1000 (1 + max (sJ (k.aft t.1 true t.2)) (sJ (k.aft t.1 false t.2))) := by unfold sV gV sJ; omega
theorem sJ_fold {k : KS} (hk : KGood k) (h : k.doneJ = false) : kFold (sV k) 1000 (kWeak k ++ kStrong k) = sJ k := by
  unfold sJ
  rw [gJ_eq hk h]
  exact kFold_cap (gV k) _ kNever 1000 (by decide)
def TabJ (w : World) (tb c : Nat) : Prop := ∃ xs : List Int, Kd.R (Kd.int .i64) 3 w 0 (fun k_ => k_ = tb) (.slice (some ⟨tb, 0, none⟩) 38416 c) xs ∧ ∀ k, KGood k → xs[kPlace k]? = some (-1) ∨ xs[kPlace k]? = some (sJ k)
theorem TabJ.len {w : World} {tb c : Nat} {xs : List Int} (h : Kd.R (Kd.int .i64) 3 w 0 (fun k_ => k_ = tb) (.slice (some ⟨tb, 0, none⟩) 38416 c) xs) : xs.length = 38416 := (Kd.R_reads' h).1.symm
theorem TabJ.lt {w : World} {tb c : Nat} (h : TabJ w tb c) : tb < w.heap.size := by
  obtain ⟨xs, h1, _⟩ := h
  have hl := TabJ.len h1
  obtain ⟨g, cap, e, _, h2, _⟩ := Kd.R_form h1 (by omega)
  injection e with e1
  injection e1 with e2
  injection e2 with e3
  omega
theorem TabJ.below {w w' : World} {tb c : Nat} (h : TabJ w tb c) (hb : Below w.heap.size w w') : TabJ w' tb c := by
  obtain ⟨xs, h1, h2⟩ := h
  exact ⟨xs, Kd.R_below h1 hb, h2⟩
theorem TabJ.look {w : World} {tb c : Nat} (h : TabJ w tb c) {k : KS} (hk : KGood k) : ∃ y : Int, (y = -1 ∨ y = sJ k) ∧ w.cell? ⟨tb, kPlace k, none⟩ = some (.int .i64 y) ∧ w.frozen? ⟨tb, kPlace k, none⟩ = false := by
  obtain ⟨xs, h1, h2⟩ := h
  have hl := TabJ.len h1
  have hp := kPlace_lt hk
  obtain ⟨c1, c2⟩ := Kd.R_celln 0 h1 (kPlace k : Int) (by omega) (by omega)
  simp only [Int.toNat_natCast] at c1 c2
  refine ⟨xs.getD (kPlace k) 0, ?_, c1, c2⟩
  rw [List.getD_eq_getElem?_getD]
  rcases h2 k hk with h | h <;> rw [h]
  · exact .inl rfl
  · exact .inr rfl
theorem TabJ.store {w : World} {tb c : Nat} (h : TabJ w tb c) {k : KS} (hk : KGood k) : TabJ (w.setCell ⟨tb, kPlace k, none⟩ (.int .i64 (sJ k))) tb c ∧ w.grownBy (w.setCell ⟨tb, kPlace k, none⟩ (.int .i64 (sJ k))) (some tb) := by
  obtain ⟨xs, h1, h2⟩ := h
  have hl := TabJ.len h1
  have hp := kPlace_lt hk
  have h3 := Kd.R_putg h1 (kPlace k : Int) (sJ k)
  simp only [Int.toNat_natCast] at h3
  refine ⟨⟨_, h3.1, fun q hq => ?_⟩, h3.2⟩
  rw [List.getElem?_set]
  by_cases e : kPlace k = kPlace q
  · have := kPlace_inj hk hq e
    subst this
    rw [if_pos rfl, if_pos (by omega)]
    exact .inr rfl
  · rw [if_neg e]
    exact h2 q hq
def SFewJ (tb c : Nat) (k : KS) : Prop := ∀ w, TabJ w tb c → Calls Try.prog 39 #[.slice (some ⟨tb, 0, none⟩) 38416 c, kCells k, .bool false] w fun e w' => e = .returned (.int .i64 (sJ k)) ∧ TabJ w' tb c ∧ w.grownBy w' (some tb)
def SWithJ (tb c : Nat) (k : KS) (t : Bool × Int) : Prop := ∀ w, TabJ w tb c → Calls Try.prog 65 #[.slice (some ⟨tb, 0, none⟩) 38416 c, kCells k, .bool t.1, .int .i64 t.2, .bool false] w fun e w' => e = .returned (.int .i64 (sV k t)) ∧ TabJ w' tb c ∧ w.grownBy w' (some tb)
set_option maxHeartbeats 8000000 in
set_option maxRecDepth 100000 in
theorem swithJ_of (tb c0 : Nat) (k : KS) (hk : KGood k) (t : Bool × Int) (ht : t ∈ k.tests) (H0 : SFewJ tb c0 (k.aft t.1 false t.2)) (H1 : SFewJ tb c0 (k.aft t.1 true t.2)) : SWithJ tb c0 k t := by
  intro w hT
  have HT := Aside0.mk hT
  have HG := Aside0.mk (Hx.g_refl w (some tb))
  have E0 := Aside0.mk (sAfter_is hk ht false)
  have E1 := Aside0.mk (sAfter_is hk ht true)
  have hW := sV_is k t
  obtain ⟨q0, hq0⟩ : ∃ q, q = k.aft t.1 false t.2 := ⟨_, rfl⟩
  obtain ⟨q1, hq1⟩ : ∃ q, q = k.aft t.1 true t.2 := ⟨_, rfl⟩
  rw [← hq0] at H0 E0 hW
  rw [← hq1] at H1 E1 hW
  have a1 := sJ_lo q1
  have a2 := sJ_hi q1
  have a3 := sJ_lo q0
  have a4 := sJ_hi q0
  have w3 : IntKind.i64.wrap (1 + max (sJ q1) (sJ q0)) = 1 + max (sJ q1) (sJ q0) := Hw.wrap_w (by omega) (by omega)
  unfold SFewJ at H0 H1
  replace H0 := Aside0.mk H0
  replace H1 := Aside0.mk H1
  rw [hW]
  clear hq0 hq1 hT hW hk ht a1 a2 a3 a4
  obtain ⟨st, fl⟩ := t
  simp only at E0 E1
  go_enter Try.func65, Try.ntmps65
  go_wp2_with (first | ((with_reducible refine gate_dst (N := 6) rfl ?_); refine box_event ?hg (N := 6) ?hd (cs := #[.int .i64 k.a, .int .i64 k.b, .int .i64 k.c, .int .i64 k.d, .int .i64 k.w, .int .i64 k.s]) (t := 65) ?hr ?_; (case hd => rfl); (case hg => rfl); (case hr => first | (go_simp; done) | (go_simp; rfl)); intro gB6 hg_ w_gB6 BK_ hb_; have ORD_ : Aside0 ((True) ∧ (tb < gB6 ∧ w.heap.size ≤ gB6)) := ⟨by refine ⟨trivial, ?_⟩; (have := HT.out.lt); (have := HG.out.size); omega⟩; have ORD := ORD_; clear ORD_; have n0_ : Aside0 (TabJ w_gB6 tb c0) := ⟨TabJ.below (w := _) (by exact HT.out) hb_⟩; have n1_ : Aside0 (w.grownBy w_gB6 (some tb)) := ⟨Hx.g_below (by first | exact HG.out | exact Hx.g_drew HG.out | exact Hx.g_drewN HG.out _) hb_⟩; have m0_ : Aside0 (w_gB6.heap[gB6]? = some (.cells #[.int .i64 k.a, .int .i64 k.b, .int .i64 k.c, .int .i64 k.d, .int .i64 k.w, .int .i64 k.s] 65 (0, 0))) := ⟨BK_⟩; (try clear HT); (try clear HG); have HT := n0_; have HG := n1_; have B6 := m0_; clear n0_ n1_ m0_; have cB6_0 : w_gB6.cell? ⟨gB6, 0, none⟩ = some (.int .i64 k.a) := (blk_cell B6.out 0).trans rfl; have dB6_0 := blk_frozen B6.out 0; have cB6_1 : w_gB6.cell? ⟨gB6, 1, none⟩ = some (.int .i64 k.b) := (blk_cell B6.out 1).trans rfl; have dB6_1 := blk_frozen B6.out 1; have cB6_2 : w_gB6.cell? ⟨gB6, 2, none⟩ = some (.int .i64 k.c) := (blk_cell B6.out 2).trans rfl; have dB6_2 := blk_frozen B6.out 2; have cB6_3 : w_gB6.cell? ⟨gB6, 3, none⟩ = some (.int .i64 k.d) := (blk_cell B6.out 3).trans rfl; have dB6_3 := blk_frozen B6.out 3; have cB6_4 : w_gB6.cell? ⟨gB6, 4, none⟩ = some (.int .i64 k.w) := (blk_cell B6.out 4).trans rfl; have dB6_4 := blk_frozen B6.out 4; have cB6_5 : w_gB6.cell? ⟨gB6, 5, none⟩ = some (.int .i64 k.s) := (blk_cell B6.out 5).trans rfl; have dB6_5 := blk_frozen B6.out 5; clear hg_ BK_ hb_) | ((with_reducible refine gate_callee (f := 60) rfl ?_); refine goesL_ (some 17) rfl rfl Try.func60 (by kernel_rfl) rfl #[.agg #[.int .i64 k.a, .int .i64 k.b, .int .i64 k.c, .int .i64 k.d, .int .i64 k.w, .int .i64 k.s], .bool st, .int .i64 fl, .bool true] rfl (by (try simp only [List.map_toArray, List.map_cons, List.map_nil]); first | done | rfl) ?_; refine (spec_kiAfter.calls 9 k.a k.b k.c k.d k.w k.s st fl true _ _ _ _ _ _ _ E1.out).mono ?_; rintro e_ w_1 ⟨rfl, hb_⟩; refine ⟨_, rfl, ?_⟩; have n0_ : Aside0 (TabJ w_1 tb c0) := ⟨TabJ.below (w := _) (by exact HT.out) hb_⟩; have n1_ : Aside0 (w.grownBy w_1 (some tb)) := ⟨Hx.g_below (by first | exact HG.out | exact Hx.g_drew HG.out | exact Hx.g_drewN HG.out _) hb_⟩; have n2_ : Aside0 (w_1.heap[gB6]? = some (.cells #[.int .i64 k.a, .int .i64 k.b, .int .i64 k.c, .int .i64 k.d, .int .i64 k.w, .int .i64 k.s] 65 (0, 0))) := ⟨Hx.b_below hb_ B6.out⟩; (try clear cB6_0 dB6_0 cB6_1 dB6_1 cB6_2 dB6_2 cB6_3 dB6_3 cB6_4 dB6_4 cB6_5 dB6_5); (try clear HT); (try clear HG); (try clear B6); have HT := n0_; have HG := n1_; have B6 := n2_; clear n0_ n1_ n2_; have cB6_0 : w_1.cell? ⟨gB6, 0, none⟩ = some (.int .i64 k.a) := (blk_cell B6.out 0).trans rfl; have dB6_0 := blk_frozen B6.out 0; have cB6_1 : w_1.cell? ⟨gB6, 1, none⟩ = some (.int .i64 k.b) := (blk_cell B6.out 1).trans rfl; have dB6_1 := blk_frozen B6.out 1; have cB6_2 : w_1.cell? ⟨gB6, 2, none⟩ = some (.int .i64 k.c) := (blk_cell B6.out 2).trans rfl; have dB6_2 := blk_frozen B6.out 2; have cB6_3 : w_1.cell? ⟨gB6, 3, none⟩ = some (.int .i64 k.d) := (blk_cell B6.out 3).trans rfl; have dB6_3 := blk_frozen B6.out 3; have cB6_4 : w_1.cell? ⟨gB6, 4, none⟩ = some (.int .i64 k.w) := (blk_cell B6.out 4).trans rfl; have dB6_4 := blk_frozen B6.out 4; have cB6_5 : w_1.cell? ⟨gB6, 5, none⟩ = some (.int .i64 k.s) := (blk_cell B6.out 5).trans rfl; have dB6_5 := blk_frozen B6.out 5; clear hb_) | ((with_reducible refine gate_callee (f := 39) rfl ?_); refine goesL_ (some 19) rfl rfl Try.func39 (by kernel_rfl) rfl #[.slice (some ⟨tb, 0, none⟩) 38416 c0, .agg #[.int .i64 q1.a, .int .i64 q1.b, .int .i64 q1.c, .int .i64 q1.d, .int .i64 q1.w, .int .i64 q1.s], .bool false] rfl (by (try simp only [List.map_toArray, List.map_cons, List.map_nil]); first | done | rfl) ?_; refine (H1.out _ HT.out).mono ?_; rintro e_ w_2 ⟨rfl, ht_, hg_⟩; refine ⟨_, rfl, ?_⟩; have n0_ : Aside0 (TabJ w_2 tb c0) := ⟨ht_⟩; have n1_ : Aside0 (w.grownBy w_2 (some tb)) := ⟨World.grownBy.trans (by first | exact HG.out | exact Hx.g_drew HG.out | exact Hx.g_drewN HG.out _) hg_⟩; have n2_ : Aside0 (w_2.heap[gB6]? = some (.cells #[.int .i64 k.a, .int .i64 k.b, .int .i64 k.c, .int .i64 k.d, .int .i64 k.w, .int .i64 k.s] 65 (0, 0))) := ⟨Hx.b_grown hg_ B6.out (by simp only [ne_eq, Option.some.injEq]; have := ORD.out; omega)⟩; (try clear cB6_0 dB6_0 cB6_1 dB6_1 cB6_2 dB6_2 cB6_3 dB6_3 cB6_4 dB6_4 cB6_5 dB6_5); (try clear HT); (try clear HG); (try clear B6); have HT := n0_; have HG := n1_; have B6 := n2_; clear n0_ n1_ n2_; have cB6_0 : w_2.cell? ⟨gB6, 0, none⟩ = some (.int .i64 k.a) := (blk_cell B6.out 0).trans rfl; have dB6_0 := blk_frozen B6.out 0; have cB6_1 : w_2.cell? ⟨gB6, 1, none⟩ = some (.int .i64 k.b) := (blk_cell B6.out 1).trans rfl; have dB6_1 := blk_frozen B6.out 1; have cB6_2 : w_2.cell? ⟨gB6, 2, none⟩ = some (.int .i64 k.c) := (blk_cell B6.out 2).trans rfl; have dB6_2 := blk_frozen B6.out 2; have cB6_3 : w_2.cell? ⟨gB6, 3, none⟩ = some (.int .i64 k.d) := (blk_cell B6.out 3).trans rfl; have dB6_3 := blk_frozen B6.out 3; have cB6_4 : w_2.cell? ⟨gB6, 4, none⟩ = some (.int .i64 k.w) := (blk_cell B6.out 4).trans rfl; have dB6_4 := blk_frozen B6.out 4; have cB6_5 : w_2.cell? ⟨gB6, 5, none⟩ = some (.int .i64 k.s) := (blk_cell B6.out 5).trans rfl; have dB6_5 := blk_frozen B6.out 5; clear ht_ hg_) | ((with_reducible refine gate_callee (f := 60) rfl ?_); refine goesL_ (some 24) rfl rfl Try.func60 (by kernel_rfl) rfl #[.agg #[.int .i64 k.a, .int .i64 k.b, .int .i64 k.c, .int .i64 k.d, .int .i64 k.w, .int .i64 k.s], .bool st, .int .i64 fl, .bool false] rfl (by (try simp only [List.map_toArray, List.map_cons, List.map_nil]); first | done | rfl) ?_; refine (spec_kiAfter.calls 9 k.a k.b k.c k.d k.w k.s st fl false _ _ _ _ _ _ _ E0.out).mono ?_; rintro e_ w_3 ⟨rfl, hb_⟩; refine ⟨_, rfl, ?_⟩; have n0_ : Aside0 (TabJ w_3 tb c0) := ⟨TabJ.below (w := _) (by exact HT.out) hb_⟩; have n1_ : Aside0 (w.grownBy w_3 (some tb)) := ⟨Hx.g_below (by first | exact HG.out | exact Hx.g_drew HG.out | exact Hx.g_drewN HG.out _) hb_⟩; have n2_ : Aside0 (w_3.heap[gB6]? = some (.cells #[.int .i64 k.a, .int .i64 k.b, .int .i64 k.c, .int .i64 k.d, .int .i64 k.w, .int .i64 k.s] 65 (0, 0))) := ⟨Hx.b_below hb_ B6.out⟩; (try clear cB6_0 dB6_0 cB6_1 dB6_1 cB6_2 dB6_2 cB6_3 dB6_3 cB6_4 dB6_4 cB6_5 dB6_5); (try clear HT); (try clear HG); (try clear B6); have HT := n0_; have HG := n1_; have B6 := n2_; clear n0_ n1_ n2_; have cB6_0 : w_3.cell? ⟨gB6, 0, none⟩ = some (.int .i64 k.a) := (blk_cell B6.out 0).trans rfl; have dB6_0 := blk_frozen B6.out 0; have cB6_1 : w_3.cell? ⟨gB6, 1, none⟩ = some (.int .i64 k.b) := (blk_cell B6.out 1).trans rfl; have dB6_1 := blk_frozen B6.out 1; have cB6_2 : w_3.cell? ⟨gB6, 2, none⟩ = some (.int .i64 k.c) := (blk_cell B6.out 2).trans rfl; have dB6_2 := blk_frozen B6.out 2; have cB6_3 : w_3.cell? ⟨gB6, 3, none⟩ = some (.int .i64 k.d) := (blk_cell B6.out 3).trans rfl; have dB6_3 := blk_frozen B6.out 3; have cB6_4 : w_3.cell? ⟨gB6, 4, none⟩ = some (.int .i64 k.w) := (blk_cell B6.out 4).trans rfl; have dB6_4 := blk_frozen B6.out 4; have cB6_5 : w_3.cell? ⟨gB6, 5, none⟩ = some (.int .i64 k.s) := (blk_cell B6.out 5).trans rfl; have dB6_5 := blk_frozen B6.out 5; clear hb_) | ((with_reducible refine gate_callee (f := 39) rfl ?_); refine goesL_ (some 26) rfl rfl Try.func39 (by kernel_rfl) rfl #[.slice (some ⟨tb, 0, none⟩) 38416 c0, .agg #[.int .i64 q0.a, .int .i64 q0.b, .int .i64 q0.c, .int .i64 q0.d, .int .i64 q0.w, .int .i64 q0.s], .bool false] rfl (by (try simp only [List.map_toArray, List.map_cons, List.map_nil]); first | done | rfl) ?_; refine (H0.out _ HT.out).mono ?_; rintro e_ w_4 ⟨rfl, ht_, hg_⟩; refine ⟨_, rfl, ?_⟩; have n0_ : Aside0 (TabJ w_4 tb c0) := ⟨ht_⟩; have n1_ : Aside0 (w.grownBy w_4 (some tb)) := ⟨World.grownBy.trans (by first | exact HG.out | exact Hx.g_drew HG.out | exact Hx.g_drewN HG.out _) hg_⟩; have n2_ : Aside0 (w_4.heap[gB6]? = some (.cells #[.int .i64 k.a, .int .i64 k.b, .int .i64 k.c, .int .i64 k.d, .int .i64 k.w, .int .i64 k.s] 65 (0, 0))) := ⟨Hx.b_grown hg_ B6.out (by simp only [ne_eq, Option.some.injEq]; have := ORD.out; omega)⟩; (try clear cB6_0 dB6_0 cB6_1 dB6_1 cB6_2 dB6_2 cB6_3 dB6_3 cB6_4 dB6_4 cB6_5 dB6_5); (try clear HT); (try clear HG); (try clear B6); have HT := n0_; have HG := n1_; have B6 := n2_; clear n0_ n1_ n2_; have cB6_0 : w_4.cell? ⟨gB6, 0, none⟩ = some (.int .i64 k.a) := (blk_cell B6.out 0).trans rfl; have dB6_0 := blk_frozen B6.out 0; have cB6_1 : w_4.cell? ⟨gB6, 1, none⟩ = some (.int .i64 k.b) := (blk_cell B6.out 1).trans rfl; have dB6_1 := blk_frozen B6.out 1; have cB6_2 : w_4.cell? ⟨gB6, 2, none⟩ = some (.int .i64 k.c) := (blk_cell B6.out 2).trans rfl; have dB6_2 := blk_frozen B6.out 2; have cB6_3 : w_4.cell? ⟨gB6, 3, none⟩ = some (.int .i64 k.d) := (blk_cell B6.out 3).trans rfl; have dB6_3 := blk_frozen B6.out 3; have cB6_4 : w_4.cell? ⟨gB6, 4, none⟩ = some (.int .i64 k.w) := (blk_cell B6.out 4).trans rfl; have dB6_4 := blk_frozen B6.out 4; have cB6_5 : w_4.cell? ⟨gB6, 5, none⟩ = some (.int .i64 k.s) := (blk_cell B6.out 5).trans rfl; have dB6_5 := blk_frozen B6.out 5; clear ht_ hg_) | ((with_reducible refine gate_callee (f := 27) rfl ?_); refine goesL_ (some 29) rfl rfl Try.func27 (by kernel_rfl) rfl #[.int .i64 (sJ q1), .int .i64 (sJ q0)] rfl (by (try simp only [List.map_toArray, List.map_cons, List.map_nil]); first | done | rfl) ?_; refine (spec_l1Most.calls _ _ _ _ (most_is _ _)).mono ?_; rintro e_ w_5 ⟨rfl, hd_⟩; refine ⟨_, rfl, ?_⟩; have hb_ := hd_.below; clear hd_; have n0_ : Aside0 (TabJ w_5 tb c0) := ⟨TabJ.below (w := _) (by exact HT.out) hb_⟩; have n1_ : Aside0 (w.grownBy w_5 (some tb)) := ⟨Hx.g_below (by first | exact HG.out | exact Hx.g_drew HG.out | exact Hx.g_drewN HG.out _) hb_⟩; have n2_ : Aside0 (w_5.heap[gB6]? = some (.cells #[.int .i64 k.a, .int .i64 k.b, .int .i64 k.c, .int .i64 k.d, .int .i64 k.w, .int .i64 k.s] 65 (0, 0))) := ⟨Hx.b_below hb_ B6.out⟩; (try clear cB6_0 dB6_0 cB6_1 dB6_1 cB6_2 dB6_2 cB6_3 dB6_3 cB6_4 dB6_4 cB6_5 dB6_5); (try clear HT); (try clear HG); (try clear B6); have HT := n0_; have HG := n1_; have B6 := n2_; clear n0_ n1_ n2_; have cB6_0 : w_5.cell? ⟨gB6, 0, none⟩ = some (.int .i64 k.a) := (blk_cell B6.out 0).trans rfl; have dB6_0 := blk_frozen B6.out 0; have cB6_1 : w_5.cell? ⟨gB6, 1, none⟩ = some (.int .i64 k.b) := (blk_cell B6.out 1).trans rfl; have dB6_1 := blk_frozen B6.out 1; have cB6_2 : w_5.cell? ⟨gB6, 2, none⟩ = some (.int .i64 k.c) := (blk_cell B6.out 2).trans rfl; have dB6_2 := blk_frozen B6.out 2; have cB6_3 : w_5.cell? ⟨gB6, 3, none⟩ = some (.int .i64 k.d) := (blk_cell B6.out 3).trans rfl; have dB6_3 := blk_frozen B6.out 3; have cB6_4 : w_5.cell? ⟨gB6, 4, none⟩ = some (.int .i64 k.w) := (blk_cell B6.out 4).trans rfl; have dB6_4 := blk_frozen B6.out 4; have cB6_5 : w_5.cell? ⟨gB6, 5, none⟩ = some (.int .i64 k.s) := (blk_cell B6.out 5).trans rfl; have dB6_5 := blk_frozen B6.out 5; clear hb_) | ((with_reducible refine gate_callee (f := 26) rfl ?_); refine goesL_ (some 31) rfl rfl Try.func26 (by kernel_rfl) rfl #[.int .i64 1000, .int .i64 (1 + max (sJ q1) (sJ q0))] rfl (by (try simp only [List.map_toArray, List.map_cons, List.map_nil]); first | done | rfl) ?_; refine (spec_l1Least.calls _ _ _ _ (least_is _ _)).mono ?_; rintro e_ w_6 ⟨rfl, hd_⟩; refine ⟨_, rfl, ?_⟩; have hb_ := hd_.below; clear hd_; have n0_ : Aside0 (TabJ w_6 tb c0) := ⟨TabJ.below (w := _) (by exact HT.out) hb_⟩; have n1_ : Aside0 (w.grownBy w_6 (some tb)) := ⟨Hx.g_below (by first | exact HG.out | exact Hx.g_drew HG.out | exact Hx.g_drewN HG.out _) hb_⟩; have n2_ : Aside0 (w_6.heap[gB6]? = some (.cells #[.int .i64 k.a, .int .i64 k.b, .int .i64 k.c, .int .i64 k.d, .int .i64 k.w, .int .i64 k.s] 65 (0, 0))) := ⟨Hx.b_below hb_ B6.out⟩; (try clear cB6_0 dB6_0 cB6_1 dB6_1 cB6_2 dB6_2 cB6_3 dB6_3 cB6_4 dB6_4 cB6_5 dB6_5); (try clear HT); (try clear HG); (try clear B6); have HT := n0_; have HG := n1_; have B6 := n2_; clear n0_ n1_ n2_; have cB6_0 : w_6.cell? ⟨gB6, 0, none⟩ = some (.int .i64 k.a) := (blk_cell B6.out 0).trans rfl; have dB6_0 := blk_frozen B6.out 0; have cB6_1 : w_6.cell? ⟨gB6, 1, none⟩ = some (.int .i64 k.b) := (blk_cell B6.out 1).trans rfl; have dB6_1 := blk_frozen B6.out 1; have cB6_2 : w_6.cell? ⟨gB6, 2, none⟩ = some (.int .i64 k.c) := (blk_cell B6.out 2).trans rfl; have dB6_2 := blk_frozen B6.out 2; have cB6_3 : w_6.cell? ⟨gB6, 3, none⟩ = some (.int .i64 k.d) := (blk_cell B6.out 3).trans rfl; have dB6_3 := blk_frozen B6.out 3; have cB6_4 : w_6.cell? ⟨gB6, 4, none⟩ = some (.int .i64 k.w) := (blk_cell B6.out 4).trans rfl; have dB6_4 := blk_frozen B6.out 4; have cB6_5 : w_6.cell? ⟨gB6, 5, none⟩ = some (.int .i64 k.s) := (blk_cell B6.out 5).trans rfl; have dB6_5 := blk_frozen B6.out 5; clear hb_))
  go_ret
  exact ⟨rfl, HT.out, HG.out⟩
set_option maxHeartbeats 8000000 in
set_option maxRecDepth 100000 in
theorem sfewJ_of (tb c0 : Nat) (k : KS) (hk : KGood k) (HW : ∀ t ∈ k.tests, SWithJ tb c0 k t) : SFewJ tb c0 k := by
  intro w hT
  have HT := Aside0.mk hT
  have HG := Aside0.mk (Hx.g_refl w (some tb))
  have HP := Aside0.mk (sPlace_is hk)
  have hpl := kPlace_lt hk
  have hdone := doneJ_iff k
  have hs0 := sJ_lo k
  have hs1 := sJ_hi k
  have HK := Aside0.mk hk
  have HWW := Aside0.mk HW
  clear hT HW
  have HSD : Aside0 (k.doneJ = true → sJ k = 0) := ⟨fun h_ => by unfold sJ; rw [gJ_done h_]; rfl⟩
  by_cases hd : k.doneJ = true
  · have hd2 := hdone.1 hd
    have e1 : (k.a == k.b) = true := by simpa using hd2
    have hz := HSD.out hd
    rw [hz]
    clear hd hd2 hdone hz hs0 hs1 hpl hk
    go_enter Try.func39, Try.ntmps39
    go_wp2_with (first | ((with_reducible refine gate_dst (N := 4) rfl ?_); refine box_event ?hg (N := 4) ?hd (cs := #[.int .i64 k.a, .int .i64 k.b, .int .i64 k.c, .int .i64 k.d, .int .i64 k.w, .int .i64 k.s]) (t := 65) ?hr ?_; (case hd => rfl); (case hg => rfl); (case hr => first | (go_simp; done) | (go_simp; rfl)); intro gB4 hg_ w_gB4 BK_ hb_; have ORD_ : Aside0 ((True) ∧ (tb < gB4 ∧ w.heap.size ≤ gB4)) := ⟨by refine ⟨trivial, ?_⟩; (have := HT.out.lt); (have := HG.out.size); omega⟩; have ORD := ORD_; clear ORD_; have n0_ : Aside0 (TabJ w_gB4 tb c0) := ⟨TabJ.below (w := _) (by exact HT.out) hb_⟩; have n1_ : Aside0 (w.grownBy w_gB4 (some tb)) := ⟨Hx.g_below (by first | exact HG.out | exact Hx.g_drew HG.out | exact Hx.g_drewN HG.out _) hb_⟩; have m0_ : Aside0 (w_gB4.heap[gB4]? = some (.cells #[.int .i64 k.a, .int .i64 k.b, .int .i64 k.c, .int .i64 k.d, .int .i64 k.w, .int .i64 k.s] 65 (0, 0))) := ⟨BK_⟩; (try clear HT); (try clear HG); have HT := n0_; have HG := n1_; have B4 := m0_; clear n0_ n1_ m0_; have cB4_0 : w_gB4.cell? ⟨gB4, 0, none⟩ = some (.int .i64 k.a) := (blk_cell B4.out 0).trans rfl; have dB4_0 := blk_frozen B4.out 0; have cB4_1 : w_gB4.cell? ⟨gB4, 1, none⟩ = some (.int .i64 k.b) := (blk_cell B4.out 1).trans rfl; have dB4_1 := blk_frozen B4.out 1; have cB4_2 : w_gB4.cell? ⟨gB4, 2, none⟩ = some (.int .i64 k.c) := (blk_cell B4.out 2).trans rfl; have dB4_2 := blk_frozen B4.out 2; have cB4_3 : w_gB4.cell? ⟨gB4, 3, none⟩ = some (.int .i64 k.d) := (blk_cell B4.out 3).trans rfl; have dB4_3 := blk_frozen B4.out 3; have cB4_4 : w_gB4.cell? ⟨gB4, 4, none⟩ = some (.int .i64 k.w) := (blk_cell B4.out 4).trans rfl; have dB4_4 := blk_frozen B4.out 4; have cB4_5 : w_gB4.cell? ⟨gB4, 5, none⟩ = some (.int .i64 k.s) := (blk_cell B4.out 5).trans rfl; have dB4_5 := blk_frozen B4.out 5; clear hg_ BK_ hb_))
    go_ret
    exact ⟨rfl, HT.out, HG.out⟩
  · have hnd : ¬ (k.a = k.b) := fun h_ => hd (hdone.2 h_)
    have HSF := Aside0.mk (sJ_fold hk (by simpa using hd))
    have e1 : (k.a == k.b) = false := by simpa using hnd
    obtain ⟨pl, hple⟩ : ∃ pl, pl = kPlace k := ⟨_, rfl⟩
    have HST := Aside0.mk (fun (W : World) (h_ : TabJ W tb c0) => TabJ.store h_ hk)
    have HLK := Aside0.mk (fun (W : World) (h_ : TabJ W tb c0) => TabJ.look h_ hk)
    rw [← hple] at hpl HP HST HLK
    have HPL := Aside0.mk hpl
    have HB01 := Aside0.mk (And.intro hs0 hs1)
    clear hd hdone hnd hple hs0 hs1 hpl hk
    all_goals
      go_enter Try.func39, Try.ntmps39
      go_upto_region 4 with (first | ((with_reducible refine gate_dst (N := 4) rfl ?_); refine box_event ?hg (N := 4) ?hd (cs := #[.int .i64 k.a, .int .i64 k.b, .int .i64 k.c, .int .i64 k.d, .int .i64 k.w, .int .i64 k.s]) (t := 65) ?hr ?_; (case hd => rfl); (case hg => rfl); (case hr => first | (go_simp; done) | (go_simp; rfl)); intro gB4 hg_ w_gB4 BK_ hb_; have ORD_ : Aside0 ((True) ∧ (tb < gB4 ∧ w.heap.size ≤ gB4)) := ⟨by refine ⟨trivial, ?_⟩; (have := HT.out.lt); (have := HG.out.size); omega⟩; have ORD := ORD_; clear ORD_; have n0_ : Aside0 (TabJ w_gB4 tb c0) := ⟨TabJ.below (w := _) (by exact HT.out) hb_⟩; have n1_ : Aside0 (w.grownBy w_gB4 (some tb)) := ⟨Hx.g_below (by first | exact HG.out | exact Hx.g_drew HG.out | exact Hx.g_drewN HG.out _) hb_⟩; have m0_ : Aside0 (w_gB4.heap[gB4]? = some (.cells #[.int .i64 k.a, .int .i64 k.b, .int .i64 k.c, .int .i64 k.d, .int .i64 k.w, .int .i64 k.s] 65 (0, 0))) := ⟨BK_⟩; (try clear HT); (try clear HG); have HT := n0_; have HG := n1_; have B4 := m0_; clear n0_ n1_ m0_; have cB4_0 : w_gB4.cell? ⟨gB4, 0, none⟩ = some (.int .i64 k.a) := (blk_cell B4.out 0).trans rfl; have dB4_0 := blk_frozen B4.out 0; have cB4_1 : w_gB4.cell? ⟨gB4, 1, none⟩ = some (.int .i64 k.b) := (blk_cell B4.out 1).trans rfl; have dB4_1 := blk_frozen B4.out 1; have cB4_2 : w_gB4.cell? ⟨gB4, 2, none⟩ = some (.int .i64 k.c) := (blk_cell B4.out 2).trans rfl; have dB4_2 := blk_frozen B4.out 2; have cB4_3 : w_gB4.cell? ⟨gB4, 3, none⟩ = some (.int .i64 k.d) := (blk_cell B4.out 3).trans rfl; have dB4_3 := blk_frozen B4.out 3; have cB4_4 : w_gB4.cell? ⟨gB4, 4, none⟩ = some (.int .i64 k.w) := (blk_cell B4.out 4).trans rfl; have dB4_4 := blk_frozen B4.out 4; have cB4_5 : w_gB4.cell? ⟨gB4, 5, none⟩ = some (.int .i64 k.s) := (blk_cell B4.out 5).trans rfl; have dB4_5 := blk_frozen B4.out 5; clear hg_ BK_ hb_) | ((with_reducible refine gate_callee (f := 63) rfl ?_); refine goesL_ (some 30) rfl rfl Try.func63 (by kernel_rfl) rfl #[.agg #[.int .i64 k.a, .int .i64 k.b, .int .i64 k.c, .int .i64 k.d, .int .i64 k.w, .int .i64 k.s]] rfl (by (try simp only [List.map_toArray, List.map_cons, List.map_nil]); first | done | rfl) ?_; refine (spec_kiPlace.calls _ _ _ _ _ _ _ _ HP.out).mono ?_; rintro e_ w_1 ⟨rfl, hb_⟩; refine ⟨_, rfl, ?_⟩; have n0_ : Aside0 (TabJ w_1 tb c0) := ⟨TabJ.below (w := _) (by exact HT.out) hb_⟩; have n1_ : Aside0 (w.grownBy w_1 (some tb)) := ⟨Hx.g_below (by first | exact HG.out | exact Hx.g_drew HG.out | exact Hx.g_drewN HG.out _) hb_⟩; have n2_ : Aside0 (w_1.heap[gB4]? = some (.cells #[.int .i64 k.a, .int .i64 k.b, .int .i64 k.c, .int .i64 k.d, .int .i64 k.w, .int .i64 k.s] 65 (0, 0))) := ⟨Hx.b_below hb_ B4.out⟩; (try clear cB4_0 dB4_0 cB4_1 dB4_1 cB4_2 dB4_2 cB4_3 dB4_3 cB4_4 dB4_4 cB4_5 dB4_5); (try clear HT); (try clear HG); (try clear B4); have HT := n0_; have HG := n1_; have B4 := n2_; clear n0_ n1_ n2_; have cB4_0 : w_1.cell? ⟨gB4, 0, none⟩ = some (.int .i64 k.a) := (blk_cell B4.out 0).trans rfl; have dB4_0 := blk_frozen B4.out 0; have cB4_1 : w_1.cell? ⟨gB4, 1, none⟩ = some (.int .i64 k.b) := (blk_cell B4.out 1).trans rfl; have dB4_1 := blk_frozen B4.out 1; have cB4_2 : w_1.cell? ⟨gB4, 2, none⟩ = some (.int .i64 k.c) := (blk_cell B4.out 2).trans rfl; have dB4_2 := blk_frozen B4.out 2; have cB4_3 : w_1.cell? ⟨gB4, 3, none⟩ = some (.int .i64 k.d) := (blk_cell B4.out 3).trans rfl; have dB4_3 := blk_frozen B4.out 3; have cB4_4 : w_1.cell? ⟨gB4, 4, none⟩ = some (.int .i64 k.w) := (blk_cell B4.out 4).trans rfl; have dB4_4 := blk_frozen B4.out 4; have cB4_5 : w_1.cell? ⟨gB4, 5, none⟩ = some (.int .i64 k.s) := (blk_cell B4.out 5).trans rfl; have dB4_5 := blk_frozen B4.out 5; clear hb_))
      obtain ⟨y, hy, ct, ft⟩ := HLK.out w_1 HT.out
      have p0 : (0 : Int) ≤ (pl : Int) := by omega
      have q0 : (pl : Int) < 38416 := by have := HPL.out; omega
      have hadd := Hw.add_off tb pl
      have c1 : decide (0 ≤ (pl : Int)) = true := decide_eq_true p0
      have c2 : decide ((pl : Int) < 38416) = true := decide_eq_true q0
      have c3 : decide (pl < 38416) = true := decide_eq_true HPL.out
      replace p0 := eq_true p0
      replace q0 := eq_true q0
      rcases hy with rfl | rfl
      · go_upto_region 6 with fail
        go_wp2
        clear ct ft
        clear cB4_0 dB4_0 cB4_1 dB4_1 cB4_2 dB4_2 cB4_3 dB4_3 cB4_4 dB4_4 cB4_5 dB4_5
        go_loopg [8, 9] 2 (fun n v8 v9 w' => ∃ (j : Nat) (best : Int), v9 = .int .i64 j ∧ v8 = .int .i64 best ∧ Aside0 (j + n = 2) ∧ Aside0 (kFold (sV k) best (later k j) = sJ k) ∧ Aside0 (TabJ w' tb c0) ∧ Aside0 (w.grownBy w' (some tb)) ∧ Aside0 (w'.heap[gB4]? = some (.cells #[.int .i64 k.a, .int .i64 k.b, .int .i64 k.c, .int .i64 k.d, .int .i64 k.w, .int .i64 k.s] 65 (0, 0))))
        case atStart => exact ⟨0, 1000, rfl, rfl, ⟨rfl⟩, HSF, HT, HG, B4⟩
        case round =>
          clear HT HG B4
          obtain ⟨j, best, rfl, rfl, HJ, HF, HT, HG, B4⟩ := hrel
          by_cases hlt : j < 2
          · have d1 : decide ((j : Int) < 2) = true := decide_eq_true (by omega)
            obtain ⟨ko, rfl⟩ : ∃ ko, gk = ko + 1 := ⟨gk - 1, by have := HJ.out; omega⟩
            obtain ⟨st, hst⟩ : ∃ st, ((j : Int) == 1) = st := ⟨_, rfl⟩
            have hls := later_step k j hlt
            rw [hst] at hls
            have hM := sMay_is k st
            have hbd := may_bd HK.out st
            have hmem := may_mem k st
            obtain ⟨lo, hlo⟩ : ∃ lo, lo = kLo k st := ⟨_, rfl⟩
            obtain ⟨hi, hhi⟩ : ∃ hi, hi = kHi k st := ⟨_, rfl⟩
            rw [← hlo, ← hhi] at hls hM hbd
            rw [← hlo, ← hhi] at hmem
            have HM := Aside0.mk hM
            have w1 : IntKind.i64.wrap (lo + 1) = lo + 1 := Hw.wrap_w (by omega) (by omega)
            have w2 : IntKind.i64.wrap ((j : Int) + 1) = ((j + 1 : Nat) : Int) := by rw [Hw.wrap_w (by omega) (by omega)]; omega
            have HF2 : Aside0 (kFold (sV k) best ((kFloors lo hi).map (fun g => (st, g)) ++ later k (j + 1)) = sJ k) := ⟨by rw [← hls]; exact HF.out⟩
            have HBD := Aside0.mk hbd
            have HMEM := Aside0.mk hmem
            have HLT := Aside0.mk hlt
            clear hls hM hbd hmem hlo hhi HF hlt
            have cB4_0 : wr.cell? ⟨gB4, 0, none⟩ = some (.int .i64 k.a) := (blk_cell B4.out 0).trans rfl
            have dB4_0 := blk_frozen B4.out 0
            have cB4_1 : wr.cell? ⟨gB4, 1, none⟩ = some (.int .i64 k.b) := (blk_cell B4.out 1).trans rfl
            have dB4_1 := blk_frozen B4.out 1
            have cB4_2 : wr.cell? ⟨gB4, 2, none⟩ = some (.int .i64 k.c) := (blk_cell B4.out 2).trans rfl
            have dB4_2 := blk_frozen B4.out 2
            have cB4_3 : wr.cell? ⟨gB4, 3, none⟩ = some (.int .i64 k.d) := (blk_cell B4.out 3).trans rfl
            have dB4_3 := blk_frozen B4.out 3
            have cB4_4 : wr.cell? ⟨gB4, 4, none⟩ = some (.int .i64 k.w) := (blk_cell B4.out 4).trans rfl
            have dB4_4 := blk_frozen B4.out 4
            have cB4_5 : wr.cell? ⟨gB4, 5, none⟩ = some (.int .i64 k.s) := (blk_cell B4.out 5).trans rfl
            have dB4_5 := blk_frozen B4.out 5
            go_wp2_with (first | ((with_reducible refine gate_callee (f := 64) rfl ?_); refine goesL_ (some 48) rfl rfl Try.func64 (by kernel_rfl) rfl #[.agg #[.int .i64 k.a, .int .i64 k.b, .int .i64 k.c, .int .i64 k.d, .int .i64 k.w, .int .i64 k.s], .bool st] rfl (by (try simp only [List.map_toArray, List.map_cons, List.map_nil]); first | done | rfl) ?_; refine (spec_kiMay.calls 3 _ _ _ _ _ _ _ _ _ _ HM.out).mono ?_; rintro e_ w_2 ⟨rfl, hb_⟩; refine ⟨_, rfl, ?_⟩; have n0_ : Aside0 (TabJ w_2 tb c0) := ⟨TabJ.below (w := _) (by exact HT.out) hb_⟩; have n1_ : Aside0 (w.grownBy w_2 (some tb)) := ⟨Hx.g_below (by first | exact HG.out | exact Hx.g_drew HG.out | exact Hx.g_drewN HG.out _) hb_⟩; have n2_ : Aside0 (w_2.heap[gB4]? = some (.cells #[.int .i64 k.a, .int .i64 k.b, .int .i64 k.c, .int .i64 k.d, .int .i64 k.w, .int .i64 k.s] 65 (0, 0))) := ⟨Hx.b_below hb_ B4.out⟩; (try clear cB4_0 dB4_0 cB4_1 dB4_1 cB4_2 dB4_2 cB4_3 dB4_3 cB4_4 dB4_4 cB4_5 dB4_5); (try clear HT); (try clear HG); (try clear B4); have HT := n0_; have HG := n1_; have B4 := n2_; clear n0_ n1_ n2_; have cB4_0 : w_2.cell? ⟨gB4, 0, none⟩ = some (.int .i64 k.a) := (blk_cell B4.out 0).trans rfl; have dB4_0 := blk_frozen B4.out 0; have cB4_1 : w_2.cell? ⟨gB4, 1, none⟩ = some (.int .i64 k.b) := (blk_cell B4.out 1).trans rfl; have dB4_1 := blk_frozen B4.out 1; have cB4_2 : w_2.cell? ⟨gB4, 2, none⟩ = some (.int .i64 k.c) := (blk_cell B4.out 2).trans rfl; have dB4_2 := blk_frozen B4.out 2; have cB4_3 : w_2.cell? ⟨gB4, 3, none⟩ = some (.int .i64 k.d) := (blk_cell B4.out 3).trans rfl; have dB4_3 := blk_frozen B4.out 3; have cB4_4 : w_2.cell? ⟨gB4, 4, none⟩ = some (.int .i64 k.w) := (blk_cell B4.out 4).trans rfl; have dB4_4 := blk_frozen B4.out 4; have cB4_5 : w_2.cell? ⟨gB4, 5, none⟩ = some (.int .i64 k.s) := (blk_cell B4.out 5).trans rfl; have dB4_5 := blk_frozen B4.out 5; clear hb_))
            clear cB4_0 dB4_0 cB4_1 dB4_1 cB4_2 dB4_2 cB4_3 dB4_3 cB4_4 dB4_4 cB4_5 dB4_5
            go_loopg [8, 12] (hi - lo).toNat (fun n v8 v12 w' => ∃ (f best : Int), v12 = .int .i64 f ∧ v8 = .int .i64 best ∧ Aside0 (lo < f ∧ f ≤ 8 ∧ hi + 1 - f ≤ n) ∧ Aside0 (kFold (sV k) best ((kFloors (f - 1) hi).map (fun g => (st, g)) ++ later k (j + 1)) = sJ k) ∧ Aside0 (TabJ w' tb c0) ∧ Aside0 (w.grownBy w' (some tb)) ∧ Aside0 (w'.heap[gB4]? = some (.cells #[.int .i64 k.a, .int .i64 k.b, .int .i64 k.c, .int .i64 k.d, .int .i64 k.w, .int .i64 k.s] 65 (0, 0))))
            case atStart => exact ⟨lo + 1, best, rfl, rfl, ⟨by have := HBD.out; omega⟩, ⟨by rw [show lo + 1 - 1 = lo by omega]; exact HF2.out⟩, HT, HG, B4⟩
            case round =>
              clear HT HG B4 HF2
              obtain ⟨f, b2, rfl, rfl, HI, HF, HT, HG, B4⟩ := hrel
              by_cases hle : f ≤ hi
              · have d2 : decide (f ≤ hi) = true := decide_eq_true hle
                obtain ⟨ki, rfl⟩ : ∃ ki, gk = ki + 1 := ⟨gk - 1, by have := HI.out; omega⟩
                have w3 : IntKind.i64.wrap (f + 1) = f + 1 := Hw.wrap_w (by have := HI.out; have := HBD.out; omega) (by have := HI.out; omega)
                have hw1 := HWW.out (st, f) (HMEM.out f HI.out.1 hle)
                unfold SWithJ at hw1
                have HW1 := Aside0.mk hw1
                have HF2 : Aside0 (kFold (sV k) (min b2 (sV k (st, f))) ((kFloors (f + 1 - 1) hi).map (fun g => (st, g)) ++ later k (j + 1)) = sJ k) := ⟨by
                  have h_ := HF.out
                  rw [kFloors_cons (lo := f - 1) (by omega), show f - 1 + 1 = f by omega, List.map_cons, List.cons_append, kFold_cons] at h_
                  rw [show f + 1 - 1 = f by omega]
                  exact h_⟩
                have HLE := Aside0.mk hle
                clear hw1 hle HF
                have cB4_0 : wr.cell? ⟨gB4, 0, none⟩ = some (.int .i64 k.a) := (blk_cell B4.out 0).trans rfl
                have dB4_0 := blk_frozen B4.out 0
                have cB4_1 : wr.cell? ⟨gB4, 1, none⟩ = some (.int .i64 k.b) := (blk_cell B4.out 1).trans rfl
                have dB4_1 := blk_frozen B4.out 1
                have cB4_2 : wr.cell? ⟨gB4, 2, none⟩ = some (.int .i64 k.c) := (blk_cell B4.out 2).trans rfl
                have dB4_2 := blk_frozen B4.out 2
                have cB4_3 : wr.cell? ⟨gB4, 3, none⟩ = some (.int .i64 k.d) := (blk_cell B4.out 3).trans rfl
                have dB4_3 := blk_frozen B4.out 3
                have cB4_4 : wr.cell? ⟨gB4, 4, none⟩ = some (.int .i64 k.w) := (blk_cell B4.out 4).trans rfl
                have dB4_4 := blk_frozen B4.out 4
                have cB4_5 : wr.cell? ⟨gB4, 5, none⟩ = some (.int .i64 k.s) := (blk_cell B4.out 5).trans rfl
                have dB4_5 := blk_frozen B4.out 5
                go_wp2_with (first | ((with_reducible refine gate_callee (f := 65) rfl ?_); refine goesL_ (some 65) rfl rfl Try.func65 (by kernel_rfl) rfl #[.slice (some ⟨tb, 0, none⟩) 38416 c0, .agg #[.int .i64 k.a, .int .i64 k.b, .int .i64 k.c, .int .i64 k.d, .int .i64 k.w, .int .i64 k.s], .bool st, .int .i64 f, .bool false] rfl (by (try simp only [List.map_toArray, List.map_cons, List.map_nil]); first | done | rfl) ?_; refine (HW1.out _ HT.out).mono ?_; rintro e_ w_3 ⟨rfl, ht_, hg_⟩; refine ⟨_, rfl, ?_⟩; have n0_ : Aside0 (TabJ w_3 tb c0) := ⟨ht_⟩; have n1_ : Aside0 (w.grownBy w_3 (some tb)) := ⟨World.grownBy.trans (by first | exact HG.out | exact Hx.g_drew HG.out | exact Hx.g_drewN HG.out _) hg_⟩; have n2_ : Aside0 (w_3.heap[gB4]? = some (.cells #[.int .i64 k.a, .int .i64 k.b, .int .i64 k.c, .int .i64 k.d, .int .i64 k.w, .int .i64 k.s] 65 (0, 0))) := ⟨Hx.b_grown hg_ B4.out (by simp only [ne_eq, Option.some.injEq]; have := ORD.out; omega)⟩; (try clear cB4_0 dB4_0 cB4_1 dB4_1 cB4_2 dB4_2 cB4_3 dB4_3 cB4_4 dB4_4 cB4_5 dB4_5); (try clear HT); (try clear HG); (try clear B4); have HT := n0_; have HG := n1_; have B4 := n2_; clear n0_ n1_ n2_; have cB4_0 : w_3.cell? ⟨gB4, 0, none⟩ = some (.int .i64 k.a) := (blk_cell B4.out 0).trans rfl; have dB4_0 := blk_frozen B4.out 0; have cB4_1 : w_3.cell? ⟨gB4, 1, none⟩ = some (.int .i64 k.b) := (blk_cell B4.out 1).trans rfl; have dB4_1 := blk_frozen B4.out 1; have cB4_2 : w_3.cell? ⟨gB4, 2, none⟩ = some (.int .i64 k.c) := (blk_cell B4.out 2).trans rfl; have dB4_2 := blk_frozen B4.out 2; have cB4_3 : w_3.cell? ⟨gB4, 3, none⟩ = some (.int .i64 k.d) := (blk_cell B4.out 3).trans rfl; have dB4_3 := blk_frozen B4.out 3; have cB4_4 : w_3.cell? ⟨gB4, 4, none⟩ = some (.int .i64 k.w) := (blk_cell B4.out 4).trans rfl; have dB4_4 := blk_frozen B4.out 4; have cB4_5 : w_3.cell? ⟨gB4, 5, none⟩ = some (.int .i64 k.s) := (blk_cell B4.out 5).trans rfl; have dB4_5 := blk_frozen B4.out 5; clear ht_ hg_) | ((with_reducible refine gate_callee (f := 26) rfl ?_); refine goesL_ (some 66) rfl rfl Try.func26 (by kernel_rfl) rfl #[.int .i64 b2, .int .i64 (sV k (st, f))] rfl (by (try simp only [List.map_toArray, List.map_cons, List.map_nil]); first | done | rfl) ?_; refine (spec_l1Least.calls _ _ _ _ (least_is _ _)).mono ?_; rintro e_ w_4 ⟨rfl, hd_⟩; refine ⟨_, rfl, ?_⟩; have hb_ := hd_.below; clear hd_; have n0_ : Aside0 (TabJ w_4 tb c0) := ⟨TabJ.below (w := _) (by exact HT.out) hb_⟩; have n1_ : Aside0 (w.grownBy w_4 (some tb)) := ⟨Hx.g_below (by first | exact HG.out | exact Hx.g_drew HG.out | exact Hx.g_drewN HG.out _) hb_⟩; have n2_ : Aside0 (w_4.heap[gB4]? = some (.cells #[.int .i64 k.a, .int .i64 k.b, .int .i64 k.c, .int .i64 k.d, .int .i64 k.w, .int .i64 k.s] 65 (0, 0))) := ⟨Hx.b_below hb_ B4.out⟩; (try clear cB4_0 dB4_0 cB4_1 dB4_1 cB4_2 dB4_2 cB4_3 dB4_3 cB4_4 dB4_4 cB4_5 dB4_5); (try clear HT); (try clear HG); (try clear B4); have HT := n0_; have HG := n1_; have B4 := n2_; clear n0_ n1_ n2_; have cB4_0 : w_4.cell? ⟨gB4, 0, none⟩ = some (.int .i64 k.a) := (blk_cell B4.out 0).trans rfl; have dB4_0 := blk_frozen B4.out 0; have cB4_1 : w_4.cell? ⟨gB4, 1, none⟩ = some (.int .i64 k.b) := (blk_cell B4.out 1).trans rfl; have dB4_1 := blk_frozen B4.out 1; have cB4_2 : w_4.cell? ⟨gB4, 2, none⟩ = some (.int .i64 k.c) := (blk_cell B4.out 2).trans rfl; have dB4_2 := blk_frozen B4.out 2; have cB4_3 : w_4.cell? ⟨gB4, 3, none⟩ = some (.int .i64 k.d) := (blk_cell B4.out 3).trans rfl; have dB4_3 := blk_frozen B4.out 3; have cB4_4 : w_4.cell? ⟨gB4, 4, none⟩ = some (.int .i64 k.w) := (blk_cell B4.out 4).trans rfl; have dB4_4 := blk_frozen B4.out 4; have cB4_5 : w_4.cell? ⟨gB4, 5, none⟩ = some (.int .i64 k.s) := (blk_cell B4.out 5).trans rfl; have dB4_5 := blk_frozen B4.out 5; clear hb_))
                go_roundg ki
                case measure => omega
                case rel => exact ⟨f + 1, _, rfl, rfl, ⟨by have := HI.out; have := HLE.out; have := HBD.out; omega⟩, HF2, HT, HG, B4⟩
              · have d2 : decide (f ≤ hi) = false := decide_eq_false hle
                have HF2 : Aside0 (kFold (sV k) b2 (later k (j + 1)) = sJ k) := ⟨by
                  have h_ := HF.out
                  rw [kFloors_nil (by omega)] at h_
                  exact h_⟩
                clear hle HF
                go_wp2
                go_roundg ko
                case measure => omega
                case rel => exact ⟨j + 1, b2, rfl, rfl, ⟨by have := HJ.out; omega⟩, HF2, HT, HG, B4⟩
          · have d1 : decide ((j : Int) < 2) = false := decide_eq_false (by omega)
            have hj : j = 2 := by have := HJ.out; omega
            have hb : best = sJ k := by have h_ := HF.out; rw [hj] at h_; exact h_
            subst hb
            clear hlt hj HF
            obtain ⟨y, hy, ct, ft⟩ := HLK.out wr HT.out
            clear hy
            obtain ⟨ht1, ht2⟩ := HST.out wr HT.out
            have HT2 := Aside0.mk ht1
            have HG2 := Aside0.mk (HG.out.trans ht2)
            clear ht1 ht2
            have cB4_0 : wr.cell? ⟨gB4, 0, none⟩ = some (.int .i64 k.a) := (blk_cell B4.out 0).trans rfl
            have dB4_0 := blk_frozen B4.out 0
            have cB4_1 : wr.cell? ⟨gB4, 1, none⟩ = some (.int .i64 k.b) := (blk_cell B4.out 1).trans rfl
            have dB4_1 := blk_frozen B4.out 1
            have cB4_2 : wr.cell? ⟨gB4, 2, none⟩ = some (.int .i64 k.c) := (blk_cell B4.out 2).trans rfl
            have dB4_2 := blk_frozen B4.out 2
            have cB4_3 : wr.cell? ⟨gB4, 3, none⟩ = some (.int .i64 k.d) := (blk_cell B4.out 3).trans rfl
            have dB4_3 := blk_frozen B4.out 3
            have cB4_4 : wr.cell? ⟨gB4, 4, none⟩ = some (.int .i64 k.w) := (blk_cell B4.out 4).trans rfl
            have dB4_4 := blk_frozen B4.out 4
            have cB4_5 : wr.cell? ⟨gB4, 5, none⟩ = some (.int .i64 k.s) := (blk_cell B4.out 5).trans rfl
            have dB4_5 := blk_frozen B4.out 5
            go_wp2_with (first | ((with_reducible refine gate_store (t := 3) (p := 70) rfl ?_); refine store_event (t := 3) (p := 70) (v := ?vo) (w1 := wr.setCell ⟨tb, pl, none⟩ (.int .i64 (sJ k))) ?hg ?ho ?hn ?hr ?_; (case ho => rfl); (case hg => rfl); (case hn => rfl); (case hr => first | (go_simp; done) | (go_simp; rfl)); intro w_9 hw_; rw [← hw_] at HT2 HG2; clear hw_))
            go_ret
            exact ⟨rfl, HT2.out, HG2.out⟩
      · have d1 : decide (sJ k ≥ 0) = true := decide_eq_true HB01.out.1
        have d2 : decide (0 ≤ sJ k) = true := decide_eq_true HB01.out.1
        go_wp2
        go_ret
        exact ⟨rfl, HT.out, HG.out⟩
theorem ssolverJ_ok (tb c0 : Nat) : ∀ (n : Nat) (k : KS), KGood k → k.ms ≤ n → SFewJ tb c0 k ∧ ∀ t ∈ k.tests, SWithJ tb c0 k t
  | 0, k, hk, hn => by
    have hw : ∀ t ∈ k.tests, SWithJ tb c0 k t := fun t ht => by have := (aft_good hk ht false).2; omega
    exact ⟨sfewJ_of tb c0 k hk hw, hw⟩
  | n + 1, k, hk, hn => by
    have hw : ∀ t ∈ k.tests, SWithJ tb c0 k t := fun t ht => by
      have a0 := aft_good hk ht false
      have a1 := aft_good hk ht true
      exact swithJ_of tb c0 k hk t ht (ssolverJ_ok tb c0 n _ a0.1 (by omega)).1 (ssolverJ_ok tb c0 n _ a1.1 (by omega)).1
    exact ⟨sfewJ_of tb c0 k hk hw, hw⟩
theorem tabJ_of {w : World} {b : Nat} {v : Value} (h : Kd.R (Kd.int .i64) 3 w b (fun _ => True) v (List.replicate 38416 (-1))) : ∃ tb c0 : Nat, v = .slice (some ⟨tb, 0, none⟩) 38416 c0 ∧ TabJ w tb c0 ∧ b ≤ tb := by
  obtain ⟨g, cap, e, h1, h2, _⟩ := Kd.R_form h (by rw [List.length_replicate]; omega)
  rw [List.length_replicate] at e
  subst e
  refine ⟨g, cap, rfl, ⟨List.replicate 38416 (-1), ?_, fun k hk => .inl ?_⟩, h1⟩
  · obtain ⟨h0, inner, ho, hr⟩ := Kd.R_lower h (Nat.zero_le b)
    exact ⟨fun k hk => by simpa [Value.ownBlock] using hk.symm, inner, ho, hr⟩
  · rw [List.getElem?_replicate, if_pos (kPlace_lt hk)]
def spec_FewestForWeak.f (a0 a1 a2 : Int) : Option (Int × Bool) := some (if kAsk a0 a1 a2 then (sJ (kStart a0 a1 a2), true) else (0, false))
set_option maxHeartbeats 8000000 in
set_option maxRecDepth 100000 in
theorem spec_FewestForWeak.calls (a0 : Int) (a1 : Int) (a2 : Int) (r1 : Int) (r2 : Bool) (w : World) (h : spec_FewestForWeak.f a0 a1 a2 = some (r1, r2)) :
    Calls Try.prog 15 #[.int .i64 a0, .int .i64 a1, .int .i64 a2] w fun e w' => e = .returned (.tuple #[.int .i64 r1, .bool r2]) ∧ Below w.heap.size w w' := by
  have HB := Aside0.mk (Below.refl w.heap.size w)
  obtain ⟨b1, hb1⟩ : ∃ b, b = kAsk a0 a1 a2 := ⟨_, rfl⟩
  have e1 := kiAsked_is a0 a1 a2
  unfold spec_FewestForWeak.f at h
  rw [← hb1] at e1 h
  have HC := Aside0.mk e1
  have HC1 := Aside0.mk hb1
  clear e1 hb1
  cases b1 with
  | false =>
    simp only [Bool.false_eq_true, if_false, Option.some.injEq, Prod.mk.injEq] at h
    obtain ⟨rfl, rfl⟩ := h
    go_enter Try.func15, Try.ntmps15
    go_wp2_with (first | ((with_reducible refine gate_callee (f := 33) rfl ?_); refine goesL_ (some 11) rfl rfl Try.func33 (by kernel_rfl) rfl #[.int .i64 a0, .int .i64 a1, .int .i64 a2] rfl (by (try simp only [List.map_toArray, List.map_cons, List.map_nil]); first | done | rfl) ?_; refine (spec_kiAsked.calls _ _ _ _ _ HC.out).mono ?_; rintro e_ w_1 ⟨rfl, hd_⟩; refine ⟨_, rfl, ?_⟩; have hb_ := hd_.below; clear hd_; have n0_ : Aside0 (Below w.heap.size w w_1) := ⟨Hx.bb_below hb_ (by first | exact HB.out | exact below_drew1 HB.out | exact pw_below_drewN HB.out _)⟩; (try clear HB); have HB := n0_; clear n0_; clear hb_))
    go_ret2
    exact ⟨rfl, HB.out⟩
  | true =>
    simp only [if_true, Option.some.injEq, Prod.mk.injEq] at h
    obtain ⟨rfl, rfl⟩ := h
    have HS0 := Aside0.mk (kAsk_good HC1.out.symm)
    go_enter Try.func15, Try.ntmps15
    go_wp2_with (first | ((with_reducible refine gate_callee (f := 33) rfl ?_); refine goesL_ (some 11) rfl rfl Try.func33 (by kernel_rfl) rfl #[.int .i64 a0, .int .i64 a1, .int .i64 a2] rfl (by (try simp only [List.map_toArray, List.map_cons, List.map_nil]); first | done | rfl) ?_; refine (spec_kiAsked.calls _ _ _ _ _ HC.out).mono ?_; rintro e_ w_1 ⟨rfl, hd_⟩; refine ⟨_, rfl, ?_⟩; have hb_ := hd_.below; clear hd_; have n0_ : Aside0 (Below w.heap.size w w_1) := ⟨Hx.bb_below hb_ (by first | exact HB.out | exact below_drew1 HB.out | exact pw_below_drewN HB.out _)⟩; (try clear HB); have HB := n0_; clear n0_; clear hb_) | ((with_reducible refine gate_callee (f := 36) rfl ?_); refine goesL_ (some 13) rfl rfl Try.func36 (by kernel_rfl) rfl #[] rfl (by (try simp only [List.map_toArray, List.map_cons, List.map_nil]); first | done | rfl) ?_; refine (spec_kiTable.calls 38417 _ _ kiTable_is).mono ?_; rintro e_ w_3 ⟨v_, rfl, hr_, hb_⟩; refine ⟨_, rfl, ?_⟩; obtain ⟨tb, c0, rfl, ht_, hz_⟩ := tabJ_of hr_; have ZZ := Aside0.mk (show w.heap.size ≤ tb from Nat.le_trans HB.out.size hz_); have n0_ : Aside0 (Below w.heap.size w w_3) := ⟨Hx.bb_below hb_ (by first | exact HB.out | exact below_drew1 HB.out | exact pw_below_drewN HB.out _)⟩; have m0_ : Aside0 (TabJ w_3 tb c0) := ⟨ht_⟩; (try clear HB); have HB := n0_; have HT := m0_; clear n0_ m0_; clear ht_ hb_ hr_ hz_) | ((with_reducible refine gate_callee (f := 37) rfl ?_); refine goesL_ (some 17) rfl rfl Try.func37 (by kernel_rfl) rfl #[.int .i64 a0, .int .i64 a1, .int .i64 a2] rfl (by (try simp only [List.map_toArray, List.map_cons, List.map_nil]); first | done | rfl) ?_; refine (spec_kiStart.calls a0 a1 a2 _ _ _ _ _ _ _ rfl).mono ?_; rintro e_ w_4 ⟨rfl, hb_⟩; refine ⟨_, rfl, ?_⟩; have n0_ : Aside0 (Below w.heap.size w w_4) := ⟨Hx.bb_below hb_ (by first | exact HB.out | exact below_drew1 HB.out | exact pw_below_drewN HB.out _)⟩; have n1_ : Aside0 (TabJ w_4 tb c0) := ⟨TabJ.below HT.out hb_⟩; (try clear HB); (try clear HT); have HB := n0_; have HT := n1_; clear n0_ n1_; clear hb_) | ((with_reducible refine gate_callee (f := 39) rfl ?_); refine goesL_ (some 18) rfl rfl Try.func39 (by kernel_rfl) rfl #[.slice (some ⟨tb, 0, none⟩) 38416 c0, .agg #[.int .i64 0, .int .i64 a2, .int .i64 0, .int .i64 a2, .int .i64 a0, .int .i64 a1], .bool false] rfl (by (try simp only [List.map_toArray, List.map_cons, List.map_nil]); first | done | rfl) ?_; refine ((ssolverJ_ok tb c0 _ (kStart a0 a1 a2) HS0.out.1 (Nat.le_refl _)).1 w_4 HT.out).mono ?_; rintro e_ w_5 ⟨rfl, hs_, hg_⟩; refine ⟨_, rfl, ?_⟩; have HB5 := Aside0.mk (Hx.bb_grown HB.out hg_ ZZ.out); clear HB HT hs_ hg_; have HB := HB5; clear HB5))
    go_ret2
    exact ⟨rfl, HB.out⟩


end Go.Proofs.Ytibapicnljedcab.Q
