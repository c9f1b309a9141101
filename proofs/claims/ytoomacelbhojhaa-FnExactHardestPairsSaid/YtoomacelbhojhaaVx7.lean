/- Plain Lean functions with the answers of Go functions, and proofs of it: printed by a program of this session (pr.py) over the kit's print, with hand-written parts. -/
import Derived.Test.YtoomacelbhojhaaVx0
import Derived.Test.YtoomacelbhojhaaVx1
import Derived.Test.YtoomacelbhojhaaVx3
import Derived.Test.YtoomacelbhojhaaVx4
import Derived.Test.YtoomacelbhojhaaVx5
import Derived.Test.YtoomacelbhojhaaVx6
namespace Go.Proofs.Ytoomacelbhojhaa.V
open Go.RowKit Go.Proofs.YtoomacelbhojhaaW.PrintWords Go.Proofs.YtoomacelbhojhaaW.PrintLast Go.Proofs.YtoomacelbhojhaaW.PrintMore
attribute [local go_sem] max2_int min2_int max_two min_two max_three min_three max_four min_four   -- for this text's walks alone
set_option linter.unusedVariables false
set_option linter.unusedSimpArgs false

-- FOR spec.HardestPairs
-- KIND rounds=0 making=1
-- CALLS impl.HardestPairs ; spec.kiPlay ; spec.PlayKinds ; spec.kiLeft
set_option maxHeartbeats 8000000 in
set_option maxRecDepth 100000 in
theorem spec_HardestPairs.calls (a0 : Int) (a1 : Int) (a2 : Int) (r1 : List (List Int)) (r2 : Bool) (w : World) (h : spec_HardestPairs.f a0 a1 a2 = some (r1, r2)) :
    Calls Try.prog 21 #[.int .i64 a0, .int .i64 a1, .int .i64 a2] w fun e w' => ∃ v0_ : Value, e = .returned (.tuple #[v0_, .bool r2]) ∧ Kd.S (Kd.slice 3 (Kd.int .i64)) 46 w' w.heap.size (fun _ => True) v0_ r1 ∧ Below w.heap.size w w' := by
  have HB := Aside0.mk (Below.refl w.heap.size w)
  obtain ⟨b1, hb1⟩ : ∃ b, b = kAsk a0 a1 a2 := ⟨_, rfl⟩
  have e1 := kiAsked_is a0 a1 a2
  unfold spec_HardestPairs.f hardK at h
  rw [← hb1] at e1 h
  have HC := Aside0.mk e1
  have HC1 := Aside0.mk hb1
  clear e1 hb1
  cases b1 with
  | false =>
    simp only [Bool.false_eq_true, if_false, Option.some.injEq, Prod.mk.injEq] at h
    obtain ⟨rfl, rfl⟩ := h
    go_enter Try.func21, Try.ntmps21
    go_wp2_with (first | ((with_reducible refine gate_callee (f := 54) rfl ?_); refine goesL_ (some 17) rfl rfl Try.func54 (by kernel_rfl) rfl #[.int .i64 a0, .int .i64 a1, .int .i64 a2] rfl (by (try simp only [List.map_toArray, List.map_cons, List.map_nil]); first | done | rfl) ?_; refine (spec_kiAsked.calls _ _ _ _ _ HC.out).mono ?_; rintro e_ w_1 ⟨rfl, hd_⟩; refine ⟨_, rfl, ?_⟩; have hb_ := hd_.below; clear hd_; have n0_ : Aside0 (Below w.heap.size w w_1) := ⟨Hx.bb_below hb_ (by first | exact HB.out | exact below_drew1 HB.out | exact pw_below_drewN HB.out _)⟩; (try clear HB); have HB := n0_; clear n0_; clear hb_))
    go_ret2
    exact ⟨_, rfl, Kd.S_nil _ _ _ _ _, HB.out⟩
  | true =>
    simp only [if_true, Option.some.injEq, Prod.mk.injEq] at h
    obtain ⟨h1, rfl⟩ := h
    have HS0 := Aside0.mk (kAsk_good HC1.out.symm)
    have HS1 := Aside0.mk (kAsk_low HC1.out.symm)
    have hfl := kAsk_fl HC1.out.symm
    have HPL0 := spec_pairs0 a2 hfl.1 hfl.2
    have HP2 := pairs0_two a2
    have hpn := pairs0_len a2 hfl.1 hfl.2
    obtain ⟨PL, hPL⟩ : ∃ PL, PL = pairsF a2 [] := ⟨_, rfl⟩
    rw [← hPL] at HPL0 h1 HP2 hpn
    have HPL := Aside0.mk HPL0
    have HPT := Aside0.mk HP2
    have HPN := Aside0.mk hpn
    obtain ⟨cnt, hcnt⟩ : ∃ cnt : List Int → Int, cnt = fun p => ((playK a0 a1 a2 (p.getD 0 0) (p.getD 1 0)).length : Int) := ⟨_, rfl⟩
    rw [← hcnt] at h1
    have HCN := Aside0.mk hcnt
    rw [hardScan_start cnt (fun p => by rw [hcnt]; exact Int.natCast_nonneg _) PL (0) (by omega) (by omega)] at h1
    have H1 := Aside0.mk h1
    clear h1 hcnt hPL HPL0 HP2 hpn hfl
    go_enter Try.func21, Try.ntmps21
    go_wp2_with (first | ((with_reducible refine gate_callee (f := 54) rfl ?_); refine goesL_ (some 17) rfl rfl Try.func54 (by kernel_rfl) rfl #[.int .i64 a0, .int .i64 a1, .int .i64 a2] rfl (by (try simp only [List.map_toArray, List.map_cons, List.map_nil]); first | done | rfl) ?_; refine (spec_kiAsked.calls _ _ _ _ _ HC.out).mono ?_; rintro e_ w_1 ⟨rfl, hd_⟩; refine ⟨_, rfl, ?_⟩; have hb_ := hd_.below; clear hd_; have n0_ : Aside0 (Below w.heap.size w w_1) := ⟨Hx.bb_below hb_ (by first | exact HB.out | exact below_drew1 HB.out | exact pw_below_drewN HB.out _)⟩; (try clear HB); have HB := n0_; clear n0_; clear hb_) | ((with_reducible refine gate_callee (f := 57) rfl ?_); refine goesL_ (some 19) rfl rfl Try.func57 (by kernel_rfl) rfl #[] rfl (by (try simp only [List.map_toArray, List.map_cons, List.map_nil]); first | done | rfl) ?_; refine (spec_kiTable.calls 38417 _ _ kiTable_is).mono ?_; rintro e_ w_2 ⟨v_, rfl, hr_, hb_⟩; refine ⟨_, rfl, ?_⟩; obtain ⟨mb, c0, rfl, ht_, hz_⟩ := tab_of hr_; have Z1 := Aside0.mk (show w.heap.size ≤ mb from Nat.le_trans HB.out.size hz_); have n0_ : Aside0 (Below w.heap.size w w_2) := ⟨Hx.bb_below hb_ (by first | exact HB.out | exact below_drew1 HB.out | exact pw_below_drewN HB.out _)⟩; have m0_ : Aside0 (Tab w_2 mb c0) := ⟨ht_⟩; (try clear HB); have HB := n0_; have HS := m0_; clear n0_ m0_; clear ht_ hb_ hr_ hz_) | ((with_reducible refine gate_callee (f := 65) rfl ?_); refine goesL_ (some 21) rfl rfl Try.func65 (by kernel_rfl) rfl #[.int .i64 a2, .slice none 0 0] rfl (by (try simp only [List.map_toArray, List.map_cons, List.map_nil]); first | done | rfl) ?_; refine (spec_kiLeft.calls 200 a2 none 0 [] _ _ (Kd.C_nil _ _) (Nat.le_refl _) HPL.out).mono ?_; rintro e_ w_3 ⟨v_, rfl, hs_, hb_⟩; refine ⟨_, rfl, ?_⟩; obtain ⟨A_, cP, rfl⟩ := Kd.S_slice hs_; have Z2 := Aside0.mk (show mb < w_2.heap.size from HS.out.lt); have ZB := Aside0.mk (show w_2.heap.size ≤ w_3.heap.size from hb_.size); have n0_ : Aside0 (Below w.heap.size w w_3) := ⟨Hx.bb_below hb_ HB.out⟩; have n1_ : Aside0 (Tab w_3 mb c0) := ⟨Tab.below HS.out hb_⟩; have m0_ : Aside0 (Kd.S (Kd.slice 3 (Kd.int .i64)) 46 w_3 w_2.heap.size (fun _ => True) (.slice A_ PL.length cP) PL) := ⟨hs_⟩; (try clear HB); (try clear HS); have HB := n0_; have HS := n1_; have HP0 := m0_; clear n0_ n1_ m0_; clear hs_ hb_))
    obtain ⟨f_, hf_⟩ := HP0.out
    obtain ⟨NB, hNB⟩ : ∃ m, m = w_2.heap.size := ⟨_, rfl⟩
    obtain ⟨N1, hN1⟩ : ∃ m, m = w_3.heap.size := ⟨_, rfl⟩
    obtain ⟨N0, hN0⟩ : ∃ m, m = w_2.heap.size := ⟨_, rfl⟩
    have hzz : N0 ≤ w_3.heap.size := by
      have h_ := ZB.out
      omega
    have ORD : Aside0 (w.heap.size ≤ mb ∧ mb < NB ∧ NB ≤ N0 ∧ N0 ≤ N1) := ⟨by have h1_ := Z1.out; have h2_ := Z2.out; omega⟩
    have HP : Aside0 ((Kd.tag f_ (Kd.slice 3 (Kd.int .i64))).R 46 w_3 N0 (fun k_ => N0 ≤ k_ ∧ k_ < N1) (.slice A_ PL.length cP) PL.zipIdx) := ⟨by
      have h_ := Kd.R_mono (Kd.R_bound hf_) (ok' := fun k_ => N0 ≤ k_ ∧ k_ < N1) (fun k_ hk_ => ⟨by have h1_ := hk_.2.1; (try rw [World.size_alloc] at h1_); omega, by have h1_ := hk_.2.2.1; omega⟩)
      exact Kd.R_lower h_ (by (try rw [World.size_alloc]); omega)⟩
    have HS2 := HS
    clear HS HP0 hf_
    have SZ : Aside0 (N1 ≤ w_3.heap.size) := ⟨by omega⟩
    have h_pos : A_ = none → PL.length = 0 := fun h_ => by
      have h2_ := (Kd.R_reads' HP.out).2.2.2.2
      by_cases h3_ : PL.length = 0
      · exact h3_
      · obtain ⟨ad_, e_, _⟩ := h2_ (by rw [List.length_zipIdx]; omega)
        rw [h_] at e_
        cases e_
    have HA := Aside0.mk h_pos
    clear Z1 Z2 ZB hzz hN1 h_pos
    go_loopg [9, 10, 23] PL.length (fun n v9 v10 vi w' => ∃ (i : Nat) (m : Int) (L : List (List Int × Nat)), vi = .int .i64 i ∧ v9 = .int .i64 m ∧ Aside0 (i + n = PL.length ∧ -1 ≤ m) ∧ Aside0 (hardScan cnt (PL.drop i) (L.map (·.1)) m = r1) ∧ Aside0 (L.length ≤ i ∧ (L.map (·.2)).Pairwise (· < ·) ∧ ∀ x ∈ L.map (·.2), x < i) ∧ Aside0 ((Kd.tag f_ (Kd.slice 3 (Kd.int .i64))).R 46 w' w.heap.size (fun k_ => NB ≤ k_) v10 L) ∧ Aside0 (∀ k_, v10.ownBlock = some k_ → NB ≤ k_ ∧ (k_ < N0 ∨ N1 ≤ k_)) ∧ Aside0 ((Kd.tag f_ (Kd.slice 3 (Kd.int .i64))).R 46 w' N0 (fun k_ => N0 ≤ k_ ∧ k_ < N1) (.slice A_ PL.length cP) PL.zipIdx) ∧ Aside0 (Tab w' mb c0) ∧ Aside0 (Below w.heap.size w w') ∧ Aside0 (N1 ≤ w'.heap.size))
    case atStart =>
      refine ⟨0, 0, [], rfl, rfl, ⟨by simp⟩, H1, ⟨by simp⟩, ⟨Kd.R_nil _ _ _ _ _⟩, ⟨by simp [Value.ownBlock]⟩, HP, HS2, HB, SZ⟩
    case round =>
      clear HP HS2 HB SZ H1
      obtain ⟨i, m, L, rfl, rfl, HI, HL, HLL, HO, OWN, HP, HS, HB, SZ⟩ := hrel
      by_cases hlt : i < PL.length
      · have p0 : (0 : Int) ≤ (i : Int) := by omega
        have q0 : (i : Int) < (PL.length : Int) := by omega
        obtain ⟨adP, rfl⟩ : ∃ ad, A_ = some ad := by
          cases A_ with
          | none => exact absurd (HA.out rfl) (by omega)
          | some ad => exact ⟨ad, rfl⟩
        obtain ⟨x0, x1, hx⟩ := HPT.out PL[i] (List.getElem_mem hlt)
        obtain ⟨c_, hc1, hM, hcc⟩ := Kd.R_getA HP.out (([], 0) : List Int × Nat) (i : Int) p0 q0
        have hz : PL.zipIdx.getD (i : Int).toNat ([], 0) = ([x0, x1], i) := by
          rw [Int.toNat_natCast, List.getD_eq_getElem?_getD, List.getElem?_zipIdx, List.getElem?_eq_getElem hlt, hx]
          simp
        rw [hz] at hM
        obtain ⟨vp, rfl, hRv⟩ := hM
        obtain ⟨gp, cp, rfl, hgb, hgl, csp, hcs⟩ := Kd.R_form hRv (by simp)
        have hq0 := Kd.R_celln 0 hRv 0 (by omega) (by simp)
        have hq1 := Kd.R_celln 0 hRv 1 (by omega) (by simp)
        have QB := Aside0.mk hcs
        have QC : Aside0 (csp[0]? = some (.int .i64 x0) ∧ csp[1]? = some (.int .i64 x1)) := ⟨⟨(blk_cell hcs 0).symm.trans hq0.1, (blk_cell hcs 1).symm.trans hq1.1⟩⟩
        have cx0 : wr.cell? ⟨gp, 0, none⟩ = some (.int .i64 x0) := (blk_cell QB.out 0).trans QC.out.1
        have cx1 : wr.cell? ⟨gp, 1, none⟩ = some (.int .i64 x1) := (blk_cell QB.out 1).trans QC.out.2
        have QR : Aside0 ((Kd.tag f_ (Kd.slice 3 (Kd.int .i64))).M wr N0 (fun k_ => N0 ≤ k_ ∧ k_ < N1) (([x0, x1], i) : List Int × Nat) [.slice (some ⟨gp, 0, none⟩) 2 cp]) := ⟨⟨_, rfl, Kd.R_mono hRv (fun k_ hk_ => ⟨hk_.1.1, hk_.2⟩)⟩⟩
        have GPN : Aside0 (N0 ≤ gp) := ⟨hgb⟩
        have cp0 : wr.cell? (adP.add i) = some (.slice (some ⟨gp, 0, none⟩) 2 cp) := by
          have h_ := hcc 0 _ rfl
          rw [show (Kd.tag f_ (Kd.slice 3 (Kd.int .i64))).sz = 1 from rfl, Int.toNat_natCast, Nat.mul_one, Nat.add_zero] at h_
          exact h_
        obtain ⟨r5, hr5⟩ : ∃ r, r = playK a0 a1 a2 x0 x1 := ⟨_, rfl⟩
        have HR5 : Aside0 (r5 = (kPlay x0 x1 (kStart a0 a1 a2).ms (kStart a0 a1 a2)).map toS) := ⟨hr5⟩
        have HN : Aside0 (cnt [x0, x1] = (r5.length : Int)) := ⟨by rw [HCN.out, hr5]; rfl⟩
        have HL2 : Aside0 (hardScan cnt ([x0, x1] :: PL.drop (i + 1)) (L.map (·.1)) m = r1) := ⟨by rw [← hx, ← List.drop_eq_getElem_cons hlt]; exact HL.out⟩
        obtain ⟨k1, rfl⟩ : ∃ k1, gk = k1 + 1 := ⟨gk - 1, by have := HI.out; omega⟩
        have dd0 : decide ((i : Int) < (PL.length : Int)) = true := decide_eq_true q0
        have dd0n : decide (i < PL.length) = true := decide_eq_true hlt
        have dd1 : decide (0 ≤ (i : Int)) = true := decide_eq_true p0
        have w2 : IntKind.i64.wrap ((i : Int) + 1) = ((i + 1 : Nat) : Int) := by rw [Hw.wrap_w (by omega) (by have := HPN.out; omega)]; omega
        have HLT := Aside0.mk hlt
        replace p0 := eq_true p0
        replace q0 := eq_true q0
        clear hlt hx hc1 hcc hz hRv hgb hgl hcs hq0 hq1 hr5 HL
        go_upto_region 9 with fail
        clear cp0
        go_region_held3 (fun w' => w'.cell? ⟨gp, 0, none⟩ = some (.int .i64 x0) ∧ w'.cell? ⟨gp, 1, none⟩ = some (.int .i64 x1)) (exact ⟨cx0, cx1⟩) (first | (go_at_call 58; refine (spec_kiStart.calls a0 a1 a2 _ _ _ _ _ _ _ rfl).mono ?_; rintro e_ w_4 ⟨rfl, hb_⟩; clear cx0 cx1; replace hb_ := Hx.undrew hb_; have n0_ : Aside0 (Tab w_4 mb c0) := ⟨Tab.below (w := _) (by exact HS.out) hb_⟩; have n1_ : Aside0 (Below w.heap.size w w_4) := ⟨Hx.bb_below hb_ (by first | exact HB.out | exact below_drew1 HB.out | exact pw_below_drewN HB.out _)⟩; have n2_ : Aside0 ((Kd.tag f_ (Kd.slice 3 (Kd.int .i64))).R 46 w_4 N0 (fun k_ => N0 ≤ k_ ∧ k_ < N1) (.slice (some adP) PL.length cP) PL.zipIdx) := ⟨Kd.R_below HP.out hb_⟩; have n3_ : Aside0 (N1 ≤ w_4.heap.size) := ⟨Nat.le_trans SZ.out hb_.size⟩; have n4_ : Aside0 ((Kd.tag f_ (Kd.slice 3 (Kd.int .i64))).R 46 w_4 w.heap.size (fun k_ => NB ≤ k_) u10 L) := ⟨Kd.R_below HO.out hb_⟩; have n5_ : Aside0 ((Kd.tag f_ (Kd.slice 3 (Kd.int .i64))).M w_4 N0 (fun k_ => N0 ≤ k_ ∧ k_ < N1) (([x0, x1], i) : List Int × Nat) [.slice (some ⟨gp, 0, none⟩) 2 cp]) := ⟨Kd.M_below QR.out hb_⟩; have n6_ : Aside0 (w_4.heap[gp]? = some (.cells csp 3 (0, 0))) := ⟨Hx.b_below hb_ QB.out⟩; (try clear HS); (try clear HB); (try clear HP); (try clear SZ); (try clear HO); (try clear QR); (try clear QB); have HS := n0_; have HB := n1_; have HP := n2_; have SZ := n3_; have HO := n4_; have QR := n5_; have QB := n6_; clear n0_ n1_ n2_ n3_ n4_ n5_ n6_; clear hb_; have cx0 : w_4.cell? ⟨gp, 0, none⟩ = some (.int .i64 x0) := (blk_cell QB.out 0).trans QC.out.1; have cx1 : w_4.cell? ⟨gp, 1, none⟩ = some (.int .i64 x1) := (blk_cell QB.out 1).trans QC.out.2) | (go_at_call 56; have hP_ := splay_of mb c0 (kStart a0 a1 a2) x0 x1 HS0.out.1 HS1.out r5 HR5.out w_4 HS.out; simp only [kCells, kStart] at hP_; (with_reducible refine hP_.mono ?_); clear hP_; rintro e_ w_5 ⟨v_, rfl, hr_, hs_, hg_⟩; obtain ⟨A5, c5, rfl⟩ := Kd.R_slice hr_; clear cx0 cx1; have n0_ : Aside0 (Tab w_5 mb c0) := ⟨hs_⟩; have n1_ : Aside0 (Below w.heap.size w w_5) := ⟨Hx.bb_grown (by first | exact HB.out | exact below_drew1 HB.out | exact pw_below_drewN HB.out _) hg_ (by have := ORD.out; omega)⟩; have n2_ : Aside0 ((Kd.tag f_ (Kd.slice 3 (Kd.int .i64))).R 46 w_5 N0 (fun k_ => N0 ≤ k_ ∧ k_ < N1) (.slice (some adP) PL.length cP) PL.zipIdx) := ⟨Kd.R_grown (row := some mb) HP.out hg_ (fun k_ hk_ h_ => by have := Option.some.inj h_; have := hk_.1; have := ORD.out; omega)⟩; have n3_ : Aside0 (N1 ≤ w_5.heap.size) := ⟨Nat.le_trans SZ.out hg_.size⟩; have n4_ : Aside0 ((Kd.tag f_ (Kd.slice 3 (Kd.int .i64))).R 46 w_5 w.heap.size (fun k_ => NB ≤ k_) u10 L) := ⟨Kd.R_grown (row := some mb) HO.out hg_ (fun k_ hk_ h_ => by have := Option.some.inj h_; have h2_ : NB ≤ k_ := hk_; have := ORD.out; omega)⟩; have n5_ : Aside0 ((Kd.tag f_ (Kd.slice 3 (Kd.int .i64))).M w_5 N0 (fun k_ => N0 ≤ k_ ∧ k_ < N1) (([x0, x1], i) : List Int × Nat) [.slice (some ⟨gp, 0, none⟩) 2 cp]) := ⟨Kd.M_grown (row := some mb) QR.out hg_ (fun k_ hk_ h_ => by have := Option.some.inj h_; have := hk_.1; have := ORD.out; omega)⟩; have n6_ : Aside0 (w_5.heap[gp]? = some (.cells csp 3 (0, 0))) := ⟨Hx.b_grown hg_ QB.out (by simp only [ne_eq, Option.some.injEq]; have := ORD.out; have := GPN.out; omega)⟩; (try clear HS); (try clear HB); (try clear HP); (try clear SZ); (try clear HO); (try clear QR); (try clear QB); have HS := n0_; have HB := n1_; have HP := n2_; have SZ := n3_; have HO := n4_; have QR := n5_; have QB := n6_; clear n0_ n1_ n2_ n3_ n4_ n5_ n6_; clear hs_ hg_ hr_; have cx0 : w_5.cell? ⟨gp, 0, none⟩ = some (.int .i64 x0) := (blk_cell QB.out 0).trans QC.out.1; have cx1 : w_5.cell? ⟨gp, 1, none⟩ = some (.int .i64 x1) := (blk_cell QB.out 1).trans QC.out.2))
        clear cx0 cx1
        rcases (by omega : (r5.length : Int) > m ∨ (r5.length : Int) = m ∨ (r5.length : Int) < m) with hgt | heq | hlt
        · have d1 : decide ((r5.length : Int) > m) = true := decide_eq_true hgt
          have d1' : decide (m < (r5.length : Int)) = true := decide_eq_true hgt
          obtain ⟨L2, hL2⟩ : ∃ L2 : List (List Int × Nat), L2 = [] ++ [(([x0, x1], i) : List Int × Nat)] := ⟨_, rfl⟩
          have NL2 := Aside0.mk hL2
          have HL3 : Aside0 (hardScan cnt (PL.drop (i + 1)) (L2.map (·.1)) (r5.length : Int) = r1) := ⟨by
            have h_ := HL2.out
            rw [hardScan, HN.out, if_pos hgt] at h_
            rw [hL2]
            exact h_⟩
          have HLL2 : Aside0 (L2.length ≤ i + 1 ∧ (L2.map (·.2)).Pairwise (· < ·) ∧ ∀ x ∈ L2.map (·.2), x < i + 1) := ⟨by rw [hL2]; simp⟩
          have OWN0 := OWN
          clear OWN
          have OWN : Aside0 (∀ k_, (Value.slice none 0 0).ownBlock = some k_ → NB ≤ k_ ∧ (k_ < N0 ∨ N1 ≤ k_)) := ⟨by simp [Value.ownBlock]⟩
          clear hgt hL2 HL2 HO OWN0
          have cx0 := d1
          have cx1 := d1
          go_wp2_with (first | (first | ((with_reducible refine gate_builtin (b := .append) (xs := #[.tmp 47, .tmp 49]) rfl ?_); at_builtin; refine Kd.R_append (Kd.tag f_ (Kd.slice 3 (Kd.int .i64))) (w0 := w_5) (w.heap.size) rfl (.tmp 47) (.tmp 49) 30 46 (.slice none 0 0) 24 rfl Try.underlying30 info46 rfl (show 0 < 1 from Nat.zero_lt_one) (by omega) (.slice none 0 0) [] (([x0, x1], i) : List Int × Nat) [.slice (some ⟨gp, 0, none⟩) 2 cp] (fun k_ => NB ≤ k_) (fun k_ => N0 ≤ k_ ∧ k_ < N1) rfl rfl ?aP (fun k_ hk_ => ⟨by have h1_ := hk_.1; have := ORD.out; show NB ≤ k_; omega, fun h_ => by have h2_ := OWN.out k_ h_.symm; have h3_ := hk_.2; have h4_ := hk_.1; omega⟩) ?aF ?aO ?aB ?aS ?aL ?_; (case aP => exact Kd.M_lower _ (show w.heap.size ≤ N0 by have := ORD.out; omega) QR.out); (case aB => exact Below.refl _ _); (case aF => exact (fun k_ hk_ => by have := SZ.out; have := ORD.out; show NB ≤ k_; omega)); (case aO => exact Kd.R_nil _ _ _ _ _); (case aS => exact HB.out.size); (case aL => have := HI.out; have := HLL.out.1; have := HPN.out; (try simp only [List.length_nil]); omega); intro v_ w_6 ho_ hb_ hg_ hat_; rw [← NL2.out] at ho_; clear cx0 cx1; (try clear HO); have n0_ : Aside0 (Tab w_6 mb c0) := ⟨Tab.grown2 HS.out hg_ (fun h_ => by have h2_ := OWN.out mb h_.symm; have := ORD.out; omega)⟩; have n1_ : Aside0 (Below w.heap.size w w_6) := ⟨Hx.bb_append (by first | exact HB.out | exact below_drew1 HB.out) hg_ (fun k_ h_ => by have h2_ := OWN.out k_ h_; have := ORD.out; omega)⟩; have n2_ : Aside0 ((Kd.tag f_ (Kd.slice 3 (Kd.int .i64))).R 46 w_6 N0 (fun k_ => N0 ≤ k_ ∧ k_ < N1) (.slice (some adP) PL.length cP) PL.zipIdx) := ⟨Kd.R_grown HP.out hg_ (fun k_ hk_ h_ => by have h2_ := OWN.out k_ h_.symm; have h3_ := hk_.2; have h4_ := hk_.1; omega)⟩; have n3_ : Aside0 (N1 ≤ w_6.heap.size) := ⟨Nat.le_trans SZ.out hg_.size⟩; have m0_ : Aside0 ((Kd.tag f_ (Kd.slice 3 (Kd.int .i64))).R 46 w_6 w.heap.size (fun k_ => NB ≤ k_) v_ L2) := ⟨ho_⟩; have m1_ : Aside0 (∀ k_, v_.ownBlock = some k_ → NB ≤ k_ ∧ (k_ < N0 ∨ N1 ≤ k_)) := ⟨fun k_ h_ => hat_.elim (fun h2_ => OWN.out k_ (by rw [← h2_]; exact h_)) (fun h2_ => by obtain ⟨b_, h3_, h4_⟩ := h2_; rw [h3_] at h_; have := Option.some.inj h_; have := SZ.out; have := ORD.out; omega)⟩; (try clear HS); (try clear HB); (try clear HP); (try clear SZ); have HS := n0_; have HB := n1_; have HP := n2_; have SZ := n3_; have HO := m0_; have OWN2 := m1_; clear n0_ n1_ n2_ n3_ m0_ m1_; clear ho_ hb_ hg_ hat_ QB QR)))
          go_roundg k1
          case measure => omega
          case rel => exact ⟨i + 1, _, L2, rfl, rfl, ⟨by have := HI.out; omega⟩, HL3, HLL2, HO, OWN2, HP, HS, HB, SZ⟩
        · have d1 : decide ((r5.length : Int) > m) = false := decide_eq_false (by omega)
          have d1' : decide (m < (r5.length : Int)) = false := decide_eq_false (by omega)
          have d2 : ((r5.length : Int) == m) = true := by simpa using heq
          obtain ⟨L2, hL2⟩ : ∃ L2 : List (List Int × Nat), L2 = L ++ [(([x0, x1], i) : List Int × Nat)] := ⟨_, rfl⟩
          have NL2 := Aside0.mk hL2
          have HL3 : Aside0 (hardScan cnt (PL.drop (i + 1)) (L2.map (·.1)) m = r1) := ⟨by
            have h_ := HL2.out
            rw [hardScan, HN.out, if_neg (by omega), if_pos heq] at h_
            rw [hL2, List.map_append]
            exact h_⟩
          have HLL2 : Aside0 (L2.length ≤ i + 1 ∧ (L2.map (·.2)).Pairwise (· < ·) ∧ ∀ x ∈ L2.map (·.2), x < i + 1) := ⟨by
            obtain ⟨q1, q2, q3⟩ := HLL.out
            rw [hL2, List.map_append]
            refine ⟨by simp; omega, List.pairwise_append.2 ⟨q2, by simp, fun a ha b hb => ?_⟩, fun x hx => ?_⟩
            · have h_ : b = i := by simpa using hb
              rw [h_]
              exact q3 a ha
            · rcases List.mem_append.1 hx with h_ | h_
              · have := q3 x h_; omega
              · have h2_ : x = i := by simpa using h_
                omega⟩
          clear heq hL2 HL2
          have cx0 := d1
          have cx1 := d1
          go_wp2_with (first | (first | ((with_reducible refine gate_builtin (b := .append) (xs := #[.tmp 47, .tmp 49]) rfl ?_); at_builtin; refine Kd.R_append (Kd.tag f_ (Kd.slice 3 (Kd.int .i64))) (w0 := w_5) (w.heap.size) rfl (.tmp 47) (.tmp 49) 30 46 (.slice none 0 0) 24 rfl Try.underlying30 info46 rfl (show 0 < 1 from Nat.zero_lt_one) (by omega) u10 L (([x0, x1], i) : List Int × Nat) [.slice (some ⟨gp, 0, none⟩) 2 cp] (fun k_ => NB ≤ k_) (fun k_ => N0 ≤ k_ ∧ k_ < N1) rfl rfl ?aP (fun k_ hk_ => ⟨by have h1_ := hk_.1; have := ORD.out; show NB ≤ k_; omega, fun h_ => by have h2_ := OWN.out k_ h_.symm; have h3_ := hk_.2; have h4_ := hk_.1; omega⟩) ?aF ?aO ?aB ?aS ?aL ?_; (case aP => exact Kd.M_lower _ (show w.heap.size ≤ N0 by have := ORD.out; omega) QR.out); (case aB => exact Below.refl _ _); (case aF => exact (fun k_ hk_ => by have := SZ.out; have := ORD.out; show NB ≤ k_; omega)); (case aO => exact HO.out); (case aS => exact HB.out.size); (case aL => have := HI.out; have := HLL.out.1; have := HPN.out; (try simp only [List.length_nil]); omega); intro v_ w_6 ho_ hb_ hg_ hat_; rw [← NL2.out] at ho_; clear cx0 cx1; (try clear HO); have n0_ : Aside0 (Tab w_6 mb c0) := ⟨Tab.grown2 HS.out hg_ (fun h_ => by have h2_ := OWN.out mb h_.symm; have := ORD.out; omega)⟩; have n1_ : Aside0 (Below w.heap.size w w_6) := ⟨Hx.bb_append (by first | exact HB.out | exact below_drew1 HB.out) hg_ (fun k_ h_ => by have h2_ := OWN.out k_ h_; have := ORD.out; omega)⟩; have n2_ : Aside0 ((Kd.tag f_ (Kd.slice 3 (Kd.int .i64))).R 46 w_6 N0 (fun k_ => N0 ≤ k_ ∧ k_ < N1) (.slice (some adP) PL.length cP) PL.zipIdx) := ⟨Kd.R_grown HP.out hg_ (fun k_ hk_ h_ => by have h2_ := OWN.out k_ h_.symm; have h3_ := hk_.2; have h4_ := hk_.1; omega)⟩; have n3_ : Aside0 (N1 ≤ w_6.heap.size) := ⟨Nat.le_trans SZ.out hg_.size⟩; have m0_ : Aside0 ((Kd.tag f_ (Kd.slice 3 (Kd.int .i64))).R 46 w_6 w.heap.size (fun k_ => NB ≤ k_) v_ L2) := ⟨ho_⟩; have m1_ : Aside0 (∀ k_, v_.ownBlock = some k_ → NB ≤ k_ ∧ (k_ < N0 ∨ N1 ≤ k_)) := ⟨fun k_ h_ => hat_.elim (fun h2_ => OWN.out k_ (by rw [← h2_]; exact h_)) (fun h2_ => by obtain ⟨b_, h3_, h4_⟩ := h2_; rw [h3_] at h_; have := Option.some.inj h_; have := SZ.out; have := ORD.out; omega)⟩; (try clear HS); (try clear HB); (try clear HP); (try clear SZ); have HS := n0_; have HB := n1_; have HP := n2_; have SZ := n3_; have HO := m0_; have OWN2 := m1_; clear n0_ n1_ n2_ n3_ m0_ m1_; clear ho_ hb_ hg_ hat_ QB QR)))
          go_roundg k1
          case measure => omega
          case rel => exact ⟨i + 1, m, L2, rfl, rfl, ⟨by have := HI.out; omega⟩, HL3, HLL2, HO, OWN2, HP, HS, HB, SZ⟩
        · have d1 : decide ((r5.length : Int) > m) = false := decide_eq_false (by omega)
          have d1' : decide (m < (r5.length : Int)) = false := decide_eq_false (by omega)
          have d2 : ((r5.length : Int) == m) = false := by simp; omega
          have HL3 : Aside0 (hardScan cnt (PL.drop (i + 1)) (L.map (·.1)) m = r1) := ⟨by
            have h_ := HL2.out
            rw [hardScan, HN.out, if_neg (by omega), if_neg (by omega)] at h_
            exact h_⟩
          have HLL2 : Aside0 (L.length ≤ i + 1 ∧ (L.map (·.2)).Pairwise (· < ·) ∧ ∀ x ∈ L.map (·.2), x < i + 1) := ⟨by
            obtain ⟨q1, q2, q3⟩ := HLL.out
            exact ⟨by omega, q2, fun x hx => Nat.lt_succ_of_lt (q3 x hx)⟩⟩
          clear hlt HL2
          go_wp2
          go_roundg k1
          case measure => omega
          case rel => exact ⟨i + 1, m, L, rfl, rfl, ⟨by have := HI.out; omega⟩, HL3, HLL2, HO, OWN, HP, HS, HB, SZ⟩
      · have dd0 : decide ((i : Int) < (PL.length : Int)) = false := decide_eq_false (by omega)
        have dd0n : decide (i < PL.length) = false := decide_eq_false hlt
        have HE : Aside0 (L.map (·.1) = r1) := ⟨by
          have h_ := HL.out
          rw [List.drop_of_length_le (by omega)] at h_
          exact h_⟩
        clear hlt
        go_wp2
        go_ret2
        refine ⟨_, rfl, ?_, HB.out⟩
        rw [← HE.out]
        exact Kd.S_mono (Hx.S_of_tags HO.out (HLL.out.2.1.imp (fun h_ => Nat.ne_of_lt h_))) (fun _ _ => trivial)


/-! ### laws_eqIntS: function 34 -/
def laws_eqIntS.l0 : Nat → List Int → List Int → Int → Option (Bool)
  | 0, _, _, _ => none
  | k + 1, x0, x1, x5 => if x5 < (x0.length : Int) then (if 0 ≤ x5 then (if x5 < (x1.length : Int) then (if (rd x0 x5) = (rd x1 x5) then (laws_eqIntS.l0 k x0 x1 (wrap64 (x5 + 1))) else (some false)) else (none)) else (none)) else (some true)
def laws_eqIntS.f (k : Nat) (l0 : List Int) (l1 : List Int) : Option (Bool) := if (l0.length : Int) = (l1.length : Int) then (laws_eqIntS.l0 k l0 l1 0) else (some false)
theorem laws_eqIntS.mono_l : ∀ k, (∀ y0 y1 y2, LeO (laws_eqIntS.l0 k y0 y1 y2) (laws_eqIntS.l0 (k + 1) y0 y1 y2))
  | 0 => fun _ _ _ r h => by simp [laws_eqIntS.l0] at h
  | k + 1 => by
    have ih0 := laws_eqIntS.mono_l k
    · intro y0 y1 y2
      unfold laws_eqIntS.l0
      repeat' first
      | (with_reducible exact ih0 _ _ _)
      | (with_reducible exact LeO.refl _)
      | (with_reducible exact LeO.none _)
      | (with_reducible refine LeO.ite ?_ ?_)
      | (with_reducible refine LeO.bind ?_ (fun _ => ?_))
      | exact ih0 _ _ _
      | exact LeO.none _
      | refine LeO.ite ?_ ?_
      | refine LeO.bind ?_ (fun _ => ?_)
theorem laws_eqIntS.mono : ∀ a0 a1 k, LeO (laws_eqIntS.f k a0 a1) (laws_eqIntS.f (k + 1) a0 a1) := by
  intro a0 a1 k
  have ih0 := laws_eqIntS.mono_l k
  unfold laws_eqIntS.f
  repeat' first
      | (with_reducible exact ih0 _ _ _)
      | (with_reducible exact LeO.refl _)
      | (with_reducible exact LeO.none _)
      | (with_reducible refine LeO.ite ?_ ?_)
      | (with_reducible refine LeO.bind ?_ (fun _ => ?_))
      | exact ih0 _ _ _
      | exact LeO.none _
      | refine LeO.ite ?_ ?_
      | refine LeO.bind ?_ (fun _ => ?_)
set_option maxHeartbeats 8000000 in
set_option maxRecDepth 100000 in
theorem laws_eqIntS.calls (k : Nat) (A0 : Option Addr) (c0 : Nat) (l0 : List Int) (A1 : Option Addr) (c1 : Nat) (l1 : List Int) (r : Bool) (w : World) (hr0 : Kd.C (Kd.int .i64) w A0 l0.length l0) (hc0 : l0.length ≤ c0) (hr1 : Kd.C (Kd.int .i64) w A1 l1.length l1) (hc1 : l1.length ≤ c1) (h : laws_eqIntS.f k l0 l1 = some r) :
    Calls Try.prog 34 #[.slice A0 l0.length c0, .slice A1 l1.length c1] w fun e w' => e = .returned (.bool r) ∧ Drawn0 w w' := by
  have HR0 := Aside0.mk hr0
  have HC0 := Aside0.mk hc0
  clear hr0 hc0
  have HR1 := Aside0.mk hr1
  have HC1 := Aside0.mk hc1
  clear hr1 hc1
  have H : (if (l0.length : Int) = (l1.length : Int) then (laws_eqIntS.l0 k l0 l1 0) else (some false)) = some r := h
  clear h
  by_cases c3 : (l0.length : Int) = (l1.length : Int)
  · rw [if_pos c3] at H
    have c3b0 : ((l0.length : Int) == (l1.length : Int)) = true := beq_iff_eq.mpr c3
    have c3b1 : ((l0.length : Int) != (l1.length : Int)) = false := bne_eq_false_iff_eq.mpr c3
    have c3b2 : (l0.length == l1.length) = true := by first | simpa using c3 | (simp at c3 ⊢; omega)
    clear c3
    have H' := Aside0.mk H
    clear H
    go_enter Try.func34, Try.ntmps34
    go_wp2
    repeat (go_quiet (fail); try go_wp2)
    go_loopg [5] k (fun kq v5 w' => ∃ (x5_1 : Int), v5 = .int .i64 x5_1 ∧ Aside0 (laws_eqIntS.l0 kq l0 l1 x5_1 = some r) ∧ Aside0 (kq ≤ k) ∧ Drawn0 w w')
    case atStart => exact ⟨(0), (by first | rfl | (simp; done) | (simp [*]; done)), H', ⟨Nat.le_refl _⟩, by repeat (first | exact Drawn0.refl _ | apply Drawn0.step)⟩
    case round =>
      clear H'
      try clear c1
      try clear p2
      try clear c3
      try clear c3b0
      try clear c3b1
      try clear c3b2
      obtain ⟨x5_1, rfl, HA, HK1, ⟨m1, rfl⟩⟩ := hrel
      cases gk with
      | zero => exact absurd HA.out (by simp [laws_eqIntS.l0])
      | succ k1 =>
        have H := HA.out
        clear HA
        simp only [laws_eqIntS.l0] at H
        by_cases c4 : x5_1 < (l0.length : Int)
        · rw [if_pos c4] at H
          have c4b0 : decide (x5_1 < (l0.length : Int)) = true := decide_eq_true c4
          clear c4
          by_cases c5 : 0 ≤ x5_1
          · rw [if_pos c5] at H
            have c5b0 : decide (0 ≤ x5_1) = true := decide_eq_true c5
            clear c5
            by_cases c6 : x5_1 < (l1.length : Int)
            · rw [if_pos c6] at H
              have c6b0 : decide (x5_1 < (l1.length : Int)) = true := decide_eq_true c6
              clear c6
              by_cases c7 : (rd l0 x5_1) = (rd l1 x5_1)
              · rw [if_pos c7] at H
                have c7b0 : ((rd l0 x5_1) == (rd l1 x5_1)) = true := beq_iff_eq.mpr c7
                have c7b1 : ((rd l0 x5_1) != (rd l1 x5_1)) = false := bne_eq_false_iff_eq.mpr c7
                clear c7
                have H' := Aside0.mk H
                clear H
                have p226 : 0 ≤ (x5_1 : Int) := of_decide_eq_true (by first | (with_reducible assumption) | assumption)
                have q226 : x5_1 < (l0.length : Int) := of_decide_eq_true (by first | (with_reducible assumption) | assumption)
                obtain ⟨ad226, e226, hx226_0⟩ := Kd.at_int HR0.out x5_1 p226 q226
                cases e226
                replace p226 := eq_true p226
                replace q226 := eq_true q226
                have p227 : 0 ≤ (x5_1 : Int) := of_decide_eq_true (by first | (with_reducible assumption) | assumption)
                have q227 : x5_1 < (l1.length : Int) := of_decide_eq_true (by first | (with_reducible assumption) | assumption)
                obtain ⟨ad227, e227, hx227_0⟩ := Kd.at_int HR1.out x5_1 p227 q227
                cases e227
                replace p227 := eq_true p227
                replace q227 := eq_true q227
                go_wp2
                repeat (go_quiet (fail); try go_wp2)
                go_roundg k1
                case measure => have := HK1.out; omega
                case rel => exact ⟨(wrap64 (x5_1 + 1)), (by first | rfl | (simp; done) | (simp [*]; done)), H', ⟨by have := HK1.out; omega⟩, by repeat (first | exact Drawn0.refl _ | apply Drawn0.step)⟩
              · rw [if_neg c7] at H
                have c7b0 : ((rd l0 x5_1) == (rd l1 x5_1)) = false := beq_eq_false_iff_ne.mpr c7
                have c7b1 : ((rd l0 x5_1) != (rd l1 x5_1)) = true := bne_iff_ne.mpr c7
                obtain rfl := Option.some.inj H
                have p226 : 0 ≤ (x5_1 : Int) := of_decide_eq_true (by first | (with_reducible assumption) | assumption)
                have q226 : x5_1 < (l0.length : Int) := of_decide_eq_true (by first | (with_reducible assumption) | assumption)
                obtain ⟨ad226, e226, hx226_0⟩ := Kd.at_int HR0.out x5_1 p226 q226
                cases e226
                replace p226 := eq_true p226
                replace q226 := eq_true q226
                have p227 : 0 ≤ (x5_1 : Int) := of_decide_eq_true (by first | (with_reducible assumption) | assumption)
                have q227 : x5_1 < (l1.length : Int) := of_decide_eq_true (by first | (with_reducible assumption) | assumption)
                obtain ⟨ad227, e227, hx227_0⟩ := Kd.at_int HR1.out x5_1 p227 q227
                cases e227
                replace p227 := eq_true p227
                replace q227 := eq_true q227
                go_wp2
                repeat (go_quiet (fail); try go_wp2)
                go_ret
                exact ⟨by first | rfl | (simp; done) | (simp [*]; done), by repeat (first | exact Drawn0.refl _ | apply Drawn0.step)⟩
            · rw [if_neg c6] at H
              exact absurd H (by simp)
          · rw [if_neg c5] at H
            exact absurd H (by simp)
        · rw [if_neg c4] at H
          have c4b0 : decide (x5_1 < (l0.length : Int)) = false := decide_eq_false c4
          clear c4
          obtain rfl := Option.some.inj H
          go_wp2
          repeat (go_quiet (fail); try go_wp2)
          go_ret
          exact ⟨by first | rfl | (simp; done) | (simp [*]; done), by repeat (first | exact Drawn0.refl _ | apply Drawn0.step)⟩
  · rw [if_neg c3] at H
    have c3b0 : ((l0.length : Int) == (l1.length : Int)) = false := beq_eq_false_iff_ne.mpr c3
    have c3b1 : ((l0.length : Int) != (l1.length : Int)) = true := bne_iff_ne.mpr c3
    have c3b2 : (l0.length == l1.length) = false := by first | simpa using c3 | (simp at c3 ⊢; omega)
    obtain rfl := Option.some.inj H
    go_enter Try.func34, Try.ntmps34
    go_wp2
    repeat (go_quiet (fail); try go_wp2)
    go_ret
    exact ⟨by first | rfl | (simp; done) | (simp [*]; done), by repeat (first | exact Drawn0.refl _ | apply Drawn0.step)⟩

/-! ### laws_eqIntSS: function 23 -/
def laws_eqIntSS.l0 : Nat → List (List Int) → List (List Int) → Int → Option (Bool)
  | 0, _, _, _ => none
  | k + 1, x0, x1, x5 => if x5 < (x0.length : Int) then (if 0 ≤ x5 then (if x5 < (x1.length : Int) then ((laws_eqIntS.f k (rd_L1 x0 x5) (rd_L1 x1 x5)).bind fun t230 => (if t230 = true then (laws_eqIntSS.l0 k x0 x1 (wrap64 (x5 + 1))) else (some false))) else (none)) else (none)) else (some true)
def laws_eqIntSS.f (k : Nat) (l0 : List (List Int)) (l1 : List (List Int)) : Option (Bool) := if (l0.length : Int) = (l1.length : Int) then (laws_eqIntSS.l0 k l0 l1 0) else (some false)
theorem laws_eqIntSS.mono_l : ∀ k, (∀ y0 y1 y2, LeO (laws_eqIntSS.l0 k y0 y1 y2) (laws_eqIntSS.l0 (k + 1) y0 y1 y2))
  | 0 => fun _ _ _ r h => by simp [laws_eqIntSS.l0] at h
  | k + 1 => by
    have ih0 := laws_eqIntSS.mono_l k
    · intro y0 y1 y2
      unfold laws_eqIntSS.l0
      repeat' first
      | (with_reducible exact ih0 _ _ _)
      | (with_reducible exact laws_eqIntS.mono _ _ _)
      | (with_reducible exact LeO.refl _)
      | (with_reducible exact LeO.none _)
      | (with_reducible refine LeO.ite ?_ ?_)
      | (with_reducible refine LeO.bind ?_ (fun _ => ?_))
      | exact ih0 _ _ _
      | exact laws_eqIntS.mono _ _ _
      | exact LeO.none _
      | refine LeO.ite ?_ ?_
      | refine LeO.bind ?_ (fun _ => ?_)
theorem laws_eqIntSS.mono : ∀ a0 a1 k, LeO (laws_eqIntSS.f k a0 a1) (laws_eqIntSS.f (k + 1) a0 a1) := by
  intro a0 a1 k
  have ih0 := laws_eqIntSS.mono_l k
  unfold laws_eqIntSS.f
  repeat' first
      | (with_reducible exact ih0 _ _ _)
      | (with_reducible exact laws_eqIntS.mono _ _ _)
      | (with_reducible exact LeO.refl _)
      | (with_reducible exact LeO.none _)
      | (with_reducible refine LeO.ite ?_ ?_)
      | (with_reducible refine LeO.bind ?_ (fun _ => ?_))
      | exact ih0 _ _ _
      | exact laws_eqIntS.mono _ _ _
      | exact LeO.none _
      | refine LeO.ite ?_ ?_
      | refine LeO.bind ?_ (fun _ => ?_)
set_option maxHeartbeats 8000000 in
set_option maxRecDepth 100000 in
theorem laws_eqIntSS.calls (k : Nat) (A0 : Option Addr) (c0 : Nat) (l0 : List (List Int)) (A1 : Option Addr) (c1 : Nat) (l1 : List (List Int)) (r : Bool) (w : World) (hr0 : Kd.C (Kd.slice 3 (Kd.int .i64)) w A0 l0.length l0) (hc0 : l0.length ≤ c0) (hr1 : Kd.C (Kd.slice 3 (Kd.int .i64)) w A1 l1.length l1) (hc1 : l1.length ≤ c1) (h : laws_eqIntSS.f k l0 l1 = some r) :
    Calls Try.prog 23 #[.slice A0 l0.length c0, .slice A1 l1.length c1] w fun e w' => e = .returned (.bool r) ∧ Drawn0 w w' := by
  have HR0 := Aside0.mk hr0
  have HC0 := Aside0.mk hc0
  clear hr0 hc0
  have HR1 := Aside0.mk hr1
  have HC1 := Aside0.mk hc1
  clear hr1 hc1
  have H : (if (l0.length : Int) = (l1.length : Int) then (laws_eqIntSS.l0 k l0 l1 0) else (some false)) = some r := h
  clear h
  by_cases c3 : (l0.length : Int) = (l1.length : Int)
  · rw [if_pos c3] at H
    have c3b0 : ((l0.length : Int) == (l1.length : Int)) = true := beq_iff_eq.mpr c3
    have c3b1 : ((l0.length : Int) != (l1.length : Int)) = false := bne_eq_false_iff_eq.mpr c3
    have c3b2 : (l0.length == l1.length) = true := by first | simpa using c3 | (simp at c3 ⊢; omega)
    clear c3
    have H' := Aside0.mk H
    clear H
    go_enter Try.func23, Try.ntmps23
    go_wp2
    repeat (go_quiet (fail); try go_wp2)
    go_loopg [5] k (fun kq v5 w' => ∃ (x5_1 : Int), v5 = .int .i64 x5_1 ∧ Aside0 (laws_eqIntSS.l0 kq l0 l1 x5_1 = some r) ∧ Aside0 (kq ≤ k) ∧ Drawn0 w w')
    case atStart => exact ⟨(0), (by first | rfl | (simp; done) | (simp [*]; done)), H', ⟨Nat.le_refl _⟩, by repeat (first | exact Drawn0.refl _ | apply Drawn0.step)⟩
    case round =>
      clear H'
      try clear c1
      try clear c2
      try clear p2
      try clear c3
      try clear c3b0
      try clear c3b1
      try clear c3b2
      obtain ⟨x5_1, rfl, HA, HK1, ⟨m1, rfl⟩⟩ := hrel
      cases gk with
      | zero => exact absurd HA.out (by simp [laws_eqIntSS.l0])
      | succ k1 =>
        have H := HA.out
        clear HA
        simp only [laws_eqIntSS.l0] at H
        by_cases c4 : x5_1 < (l0.length : Int)
        · rw [if_pos c4] at H
          have c4b0 : decide (x5_1 < (l0.length : Int)) = true := decide_eq_true c4
          clear c4
          by_cases c5 : 0 ≤ x5_1
          · rw [if_pos c5] at H
            have c5b0 : decide (0 ≤ x5_1) = true := decide_eq_true c5
            clear c5
            by_cases c6 : x5_1 < (l1.length : Int)
            · rw [if_pos c6] at H
              have c6b0 : decide (x5_1 < (l1.length : Int)) = true := decide_eq_true c6
              clear c6
              replace H := Option.bind_eq_some_iff.mp H
              obtain ⟨t230, A70, H⟩ := H
              replace H : (if t230 = true then (laws_eqIntSS.l0 k1 l0 l1 (wrap64 (x5_1 + 1))) else (some false)) = some r := H
              have A7 := Aside0.mk A70
              clear A70
              by_cases c8 : t230 = true
              · subst c8
                have H1 : (laws_eqIntSS.l0 k1 l0 l1 (wrap64 (x5_1 + 1))) = some r := by rw [if_pos rfl] at H; exact H
                clear H
                have H := H1
                clear H1
                have H' := Aside0.mk H
                clear H
                have p228 : 0 ≤ (x5_1 : Int) := of_decide_eq_true (by first | (with_reducible assumption) | assumption)
                have q228 : x5_1 < (l0.length : Int) := of_decide_eq_true (by first | (with_reducible assumption) | assumption)
                obtain ⟨ad228, A228_0, c228_0, e228, hx228_0, hl228_0, hi228_0⟩ := at_L1 HR0.out x5_1 p228 q228
                cases e228
                have HR228_0 := Aside0.mk hi228_0
                have HC228_0 := Aside0.mk hl228_0
                clear hi228_0 hl228_0
                replace p228 := eq_true p228
                replace q228 := eq_true q228
                have p229 : 0 ≤ (x5_1 : Int) := of_decide_eq_true (by first | (with_reducible assumption) | assumption)
                have q229 : x5_1 < (l1.length : Int) := of_decide_eq_true (by first | (with_reducible assumption) | assumption)
                obtain ⟨ad229, A229_0, c229_0, e229, hx229_0, hl229_0, hi229_0⟩ := at_L1 HR1.out x5_1 p229 q229
                cases e229
                have HR229_0 := Aside0.mk hi229_0
                have HC229_0 := Aside0.mk hl229_0
                clear hi229_0 hl229_0
                replace p229 := eq_true p229
                replace q229 := eq_true q229
                go_wp2_with (first | (go_at_call 34; (with_reducible refine (laws_eqIntS.calls k1 _ _ (rd_L1 l0 x5_1) _ _ (rd_L1 l1 x5_1) true _ ?side1 ?side2 ?side3 ?side4 A7.out).mono ?_); (case side1 => repeat (first | exact HR228_0.out | (with_reducible refine Kd.C_alloc ?_ _) | (with_reducible refine Kd.C_drewN ?_ _) | (with_reducible refine Kd.C_drew ?_))); (case side2 => exact HC228_0.out); (case side3 => repeat (first | exact HR229_0.out | (with_reducible refine Kd.C_alloc ?_ _) | (with_reducible refine Kd.C_drewN ?_ _) | (with_reducible refine Kd.C_drew ?_))); (case side4 => exact HC229_0.out); rintro e w' ⟨rfl, ⟨nd, rfl⟩⟩; (try first | exact ⟨rfl, _, World.drewN_drewN _ _ _⟩ | exact ⟨rfl, _, Eq.trans (World.drewN_drewN _ _ _) (congrArg (World.drewN _) (Nat.add_assoc _ _ _))⟩)))
                repeat (go_quiet (first | (go_at_call 34; (with_reducible refine (laws_eqIntS.calls k1 _ _ (rd_L1 l0 x5_1) _ _ (rd_L1 l1 x5_1) true _ ?side1 ?side2 ?side3 ?side4 A7.out).mono ?_); (case side1 => repeat (first | exact HR228_0.out | (with_reducible refine Kd.C_alloc ?_ _) | (with_reducible refine Kd.C_drewN ?_ _) | (with_reducible refine Kd.C_drew ?_))); (case side2 => exact HC228_0.out); (case side3 => repeat (first | exact HR229_0.out | (with_reducible refine Kd.C_alloc ?_ _) | (with_reducible refine Kd.C_drewN ?_ _) | (with_reducible refine Kd.C_drew ?_))); (case side4 => exact HC229_0.out); rintro e w' ⟨rfl, ⟨nd, rfl⟩⟩; (try first | exact ⟨rfl, _, World.drewN_drewN _ _ _⟩ | exact ⟨rfl, _, Eq.trans (World.drewN_drewN _ _ _) (congrArg (World.drewN _) (Nat.add_assoc _ _ _))⟩))); try go_wp2_with (first | (go_at_call 34; (with_reducible refine (laws_eqIntS.calls k1 _ _ (rd_L1 l0 x5_1) _ _ (rd_L1 l1 x5_1) true _ ?side1 ?side2 ?side3 ?side4 A7.out).mono ?_); (case side1 => repeat (first | exact HR228_0.out | (with_reducible refine Kd.C_alloc ?_ _) | (with_reducible refine Kd.C_drewN ?_ _) | (with_reducible refine Kd.C_drew ?_))); (case side2 => exact HC228_0.out); (case side3 => repeat (first | exact HR229_0.out | (with_reducible refine Kd.C_alloc ?_ _) | (with_reducible refine Kd.C_drewN ?_ _) | (with_reducible refine Kd.C_drew ?_))); (case side4 => exact HC229_0.out); rintro e w' ⟨rfl, ⟨nd, rfl⟩⟩; (try first | exact ⟨rfl, _, World.drewN_drewN _ _ _⟩ | exact ⟨rfl, _, Eq.trans (World.drewN_drewN _ _ _) (congrArg (World.drewN _) (Nat.add_assoc _ _ _))⟩))))
                go_roundg k1
                case measure => have := HK1.out; omega
                case rel => exact ⟨(wrap64 (x5_1 + 1)), (by first | rfl | (simp; done) | (simp [*]; done)), H', ⟨by have := HK1.out; omega⟩, by repeat (first | exact Drawn0.refl _ | apply Drawn0.step)⟩
              · replace c8 := Bool.eq_false_iff.mpr c8
                subst c8
                have H1 : (some false) = some r := by rw [if_neg (show ¬ (false = true) by decide)] at H; exact H
                clear H
                have H := H1
                clear H1
                obtain rfl := Option.some.inj H
                have p228 : 0 ≤ (x5_1 : Int) := of_decide_eq_true (by first | (with_reducible assumption) | assumption)
                have q228 : x5_1 < (l0.length : Int) := of_decide_eq_true (by first | (with_reducible assumption) | assumption)
                obtain ⟨ad228, A228_0, c228_0, e228, hx228_0, hl228_0, hi228_0⟩ := at_L1 HR0.out x5_1 p228 q228
                cases e228
                have HR228_0 := Aside0.mk hi228_0
                have HC228_0 := Aside0.mk hl228_0
                clear hi228_0 hl228_0
                replace p228 := eq_true p228
                replace q228 := eq_true q228
                have p229 : 0 ≤ (x5_1 : Int) := of_decide_eq_true (by first | (with_reducible assumption) | assumption)
                have q229 : x5_1 < (l1.length : Int) := of_decide_eq_true (by first | (with_reducible assumption) | assumption)
                obtain ⟨ad229, A229_0, c229_0, e229, hx229_0, hl229_0, hi229_0⟩ := at_L1 HR1.out x5_1 p229 q229
                cases e229
                have HR229_0 := Aside0.mk hi229_0
                have HC229_0 := Aside0.mk hl229_0
                clear hi229_0 hl229_0
                replace p229 := eq_true p229
                replace q229 := eq_true q229
                go_wp2_with (first | (go_at_call 34; (with_reducible refine (laws_eqIntS.calls k1 _ _ (rd_L1 l0 x5_1) _ _ (rd_L1 l1 x5_1) false _ ?side1 ?side2 ?side3 ?side4 A7.out).mono ?_); (case side1 => repeat (first | exact HR228_0.out | (with_reducible refine Kd.C_alloc ?_ _) | (with_reducible refine Kd.C_drewN ?_ _) | (with_reducible refine Kd.C_drew ?_))); (case side2 => exact HC228_0.out); (case side3 => repeat (first | exact HR229_0.out | (with_reducible refine Kd.C_alloc ?_ _) | (with_reducible refine Kd.C_drewN ?_ _) | (with_reducible refine Kd.C_drew ?_))); (case side4 => exact HC229_0.out); rintro e w' ⟨rfl, ⟨nd, rfl⟩⟩; (try first | exact ⟨rfl, _, World.drewN_drewN _ _ _⟩ | exact ⟨rfl, _, Eq.trans (World.drewN_drewN _ _ _) (congrArg (World.drewN _) (Nat.add_assoc _ _ _))⟩)))
                repeat (go_quiet (first | (go_at_call 34; (with_reducible refine (laws_eqIntS.calls k1 _ _ (rd_L1 l0 x5_1) _ _ (rd_L1 l1 x5_1) false _ ?side1 ?side2 ?side3 ?side4 A7.out).mono ?_); (case side1 => repeat (first | exact HR228_0.out | (with_reducible refine Kd.C_alloc ?_ _) | (with_reducible refine Kd.C_drewN ?_ _) | (with_reducible refine Kd.C_drew ?_))); (case side2 => exact HC228_0.out); (case side3 => repeat (first | exact HR229_0.out | (with_reducible refine Kd.C_alloc ?_ _) | (with_reducible refine Kd.C_drewN ?_ _) | (with_reducible refine Kd.C_drew ?_))); (case side4 => exact HC229_0.out); rintro e w' ⟨rfl, ⟨nd, rfl⟩⟩; (try first | exact ⟨rfl, _, World.drewN_drewN _ _ _⟩ | exact ⟨rfl, _, Eq.trans (World.drewN_drewN _ _ _) (congrArg (World.drewN _) (Nat.add_assoc _ _ _))⟩))); try go_wp2_with (first | (go_at_call 34; (with_reducible refine (laws_eqIntS.calls k1 _ _ (rd_L1 l0 x5_1) _ _ (rd_L1 l1 x5_1) false _ ?side1 ?side2 ?side3 ?side4 A7.out).mono ?_); (case side1 => repeat (first | exact HR228_0.out | (with_reducible refine Kd.C_alloc ?_ _) | (with_reducible refine Kd.C_drewN ?_ _) | (with_reducible refine Kd.C_drew ?_))); (case side2 => exact HC228_0.out); (case side3 => repeat (first | exact HR229_0.out | (with_reducible refine Kd.C_alloc ?_ _) | (with_reducible refine Kd.C_drewN ?_ _) | (with_reducible refine Kd.C_drew ?_))); (case side4 => exact HC229_0.out); rintro e w' ⟨rfl, ⟨nd, rfl⟩⟩; (try first | exact ⟨rfl, _, World.drewN_drewN _ _ _⟩ | exact ⟨rfl, _, Eq.trans (World.drewN_drewN _ _ _) (congrArg (World.drewN _) (Nat.add_assoc _ _ _))⟩))))
                go_ret
                exact ⟨by first | rfl | (simp; done) | (simp [*]; done), by repeat (first | exact Drawn0.refl _ | apply Drawn0.step)⟩
            · rw [if_neg c6] at H
              exact absurd H (by simp)
          · rw [if_neg c5] at H
            exact absurd H (by simp)
        · rw [if_neg c4] at H
          have c4b0 : decide (x5_1 < (l0.length : Int)) = false := decide_eq_false c4
          clear c4
          obtain rfl := Option.some.inj H
          go_wp2
          repeat (go_quiet (fail); try go_wp2)
          go_ret
          exact ⟨by first | rfl | (simp; done) | (simp [*]; done), by repeat (first | exact Drawn0.refl _ | apply Drawn0.step)⟩
  · rw [if_neg c3] at H
    have c3b0 : ((l0.length : Int) == (l1.length : Int)) = false := beq_eq_false_iff_ne.mpr c3
    have c3b1 : ((l0.length : Int) != (l1.length : Int)) = true := bne_iff_ne.mpr c3
    have c3b2 : (l0.length == l1.length) = false := by first | simpa using c3 | (simp at c3 ⊢; omega)
    obtain rfl := Option.some.inj H
    go_enter Try.func23, Try.ntmps23
    go_wp2
    repeat (go_quiet (fail); try go_wp2)
    go_ret
    exact ⟨by first | rfl | (simp; done) | (simp [*]; done), by repeat (first | exact Drawn0.refl _ | apply Drawn0.step)⟩

/-! ### laws_markIntS: function 35 -/
def laws_markIntS.l0 : Nat → List Int → Int → Int → Option (Int × List Int)
  | 0, _, _, _ => none
  | k + 1, x0, x1, x5 => if x5 < (x0.length : Int) then (if 0 ≤ x5 then (laws_markIntS.l0 k (x0.set (x5 : Int).toNat x1) (wrap64 (x1 + 1)) (wrap64 (x5 + 1))) else (none)) else (some (x1, x0))
def laws_markIntS.f (k : Nat) (l0 : List Int) (a1 : Int) : Option (Int × List Int) := laws_markIntS.l0 k l0 a1 0
theorem laws_markIntS.mono_l : ∀ k, (∀ y0 y1 y2, LeO (laws_markIntS.l0 k y0 y1 y2) (laws_markIntS.l0 (k + 1) y0 y1 y2))
  | 0 => fun _ _ _ r h => by simp [laws_markIntS.l0] at h
  | k + 1 => by
    have ih0 := laws_markIntS.mono_l k
    · intro y0 y1 y2
      unfold laws_markIntS.l0
      repeat' first
      | (with_reducible exact ih0 _ _ _)
      | (with_reducible exact LeO.refl _)
      | (with_reducible exact LeO.none _)
      | (with_reducible refine LeO.ite ?_ ?_)
      | (with_reducible refine LeO.bind ?_ (fun _ => ?_))
      | exact ih0 _ _ _
      | exact LeO.none _
      | refine LeO.ite ?_ ?_
      | refine LeO.bind ?_ (fun _ => ?_)
theorem laws_markIntS.mono : ∀ a0 a1 k, LeO (laws_markIntS.f k a0 a1) (laws_markIntS.f (k + 1) a0 a1) := by
  intro a0 a1 k
  have ih0 := laws_markIntS.mono_l k
  unfold laws_markIntS.f
  repeat' first
      | (with_reducible exact ih0 _ _ _)
      | (with_reducible exact LeO.refl _)
      | (with_reducible exact LeO.none _)
      | (with_reducible refine LeO.ite ?_ ?_)
      | (with_reducible refine LeO.bind ?_ (fun _ => ?_))
      | exact ih0 _ _ _
      | exact LeO.none _
      | refine LeO.ite ?_ ?_
      | refine LeO.bind ?_ (fun _ => ?_)
set_option maxHeartbeats 8000000 in
set_option maxRecDepth 100000 in
theorem laws_markIntS.calls (k : Nat) (P0_ : Nat → Prop) (u9000_ : Value) (l0 : List Int) (a1 : Int) (r1 : Int) (r2 : List Int) (w0 w : World) (hB : Below w0.heap.size w0 w) (ho0 : Kd.R (Kd.int .i64) 3 w w0.heap.size P0_ u9000_ l0) (h : laws_markIntS.f k l0 a1 = some (r1, r2)) :
    Calls Try.prog 35 #[u9000_, .int .i64 a1] w fun e w' => e = .returned (.int .i64 r1) ∧ Kd.R (Kd.int .i64) 3 w' w0.heap.size (fun k_ => (P0_ k_ ∨ w.heap.size ≤ k_)) u9000_ r2 ∧ Below w0.heap.size w0 w' ∧ Kept w w' (fun k_ => P0_ k_) := by
  have HO0 := Aside0.mk (show Kd.R (Kd.int .i64) 3 w w0.heap.size (fun k_ => (P0_ k_ ∨ w.heap.size ≤ k_)) u9000_ l0 from Kd.R_mono ho0 (fun k_ hk => (.inl hk)))
  have HK := Aside0.mk (Kept.refl w (fun k_ => P0_ k_))
  have HW0 := Aside0.mk hB.size
  have HB := Aside0.mk hB
  clear hB
  have H : (laws_markIntS.l0 k l0 a1 0) = some (r1, r2) := h
  clear h
  have H' := Aside0.mk H
  clear H
  go_enter Try.func35, Try.ntmps35
  go_wp2
  go_loopg [1, 5] k (fun kq v1 v5 w' => ∃ (x0_1 : List Int) (x1_1 : Int) (x5_1 : Int), v1 = .int .i64 x1_1 ∧ v5 = .int .i64 x5_1 ∧ Aside0 (laws_markIntS.l0 kq x0_1 x1_1 x5_1 = some (r1, r2)) ∧ Aside0 (kq ≤ k) ∧ Aside0 (Kd.R (Kd.int .i64) 3 w' w0.heap.size (fun k_ => (P0_ k_ ∨ w.heap.size ≤ k_)) u9000_ x0_1) ∧ Aside0 (Kept w w' (fun k_ => P0_ k_)) ∧ Aside0 (Below w0.heap.size w0 w'))
  case atStart => exact ⟨(l0), (a1), (0), (by first | rfl | (simp; done) | (simp [*]; done)), (by first | rfl | (simp; done) | (simp [*]; done)), H', ⟨Nat.le_refl _⟩, ⟨by (with_reducible repeat (first | apply Kd.R_alloc | apply Kd.R_drewN | apply Kd.R_drew)); exact HO0.out⟩, ⟨by repeat (first | (with_reducible first | exact HK.out | apply Kept.alloc | apply Kept.drewN | apply Kept.drew) | exact HK.out)⟩, ⟨by repeat (first | (with_reducible first | exact HB.out | apply below_alloc | apply pw_below_drewN | apply below_drew1) | exact HB.out)⟩⟩
  case round =>
    clear H'
    try clear p2
    obtain ⟨x0_1, x1_1, x5_1, rfl, rfl, HA, HK1, HO_0, HK, HB⟩ := hrel
    cases gk with
    | zero => exact absurd HA.out (by simp [laws_markIntS.l0])
    | succ k1 =>
      have H := HA.out
      clear HA
      simp only [laws_markIntS.l0] at H
      by_cases c3 : x5_1 < (x0_1.length : Int)
      · rw [if_pos c3] at H
        have c3b0 : decide (x5_1 < (x0_1.length : Int)) = true := decide_eq_true c3
        clear c3
        by_cases c4 : 0 ≤ x5_1
        · rw [if_pos c4] at H
          have c4b0 : decide (0 ≤ x5_1) = true := decide_eq_true c4
          clear c4
          obtain ⟨y231, hy231⟩ : ∃ y_ : List Int, y_ = (x0_1.set (x5_1 : Int).toNat x1_1) := ⟨_, rfl⟩
          replace H : (laws_markIntS.l0 k1 y231 (wrap64 (x1_1 + 1)) (wrap64 (x5_1 + 1))) = some (r1, r2) := by first | (rw [hy231]; with_reducible exact H) | (have H2_ := (Option.bind_some _ _).symm.trans H; rw [hy231]; with_reducible exact H2_) | (have H2_ := (Option.bind_some _ _).symm.trans H; with_reducible exact H2_) | with_reducible exact H | (rw [hy231]; exact H) | exact H
          have Ny231 := Aside0.mk hy231
          clear hy231
          have H' := Aside0.mk H
          clear H
          obtain ⟨Ao6, co6, eo6⟩ := Kd.R_slice HO_0.out
          subst eo6
          have p5 : 0 ≤ (x5_1 : Int) := of_decide_eq_true (by first | (with_reducible assumption) | assumption)
          have q5 : (x5_1 : Int) < ((x0_1.length : Int) : Int) := of_decide_eq_true (by first | (with_reducible assumption) | assumption)
          obtain ⟨go5, co5, eo5, gb5, gl5, cl5, HG5⟩ := Kd.R_form HO_0.out (by omega)
          (first | cases eo5 | (injection eo5 with ea_ en_ ec_; (first | subst ea_ | (injection ea_ with ea_; subst ea_)); subst ec_; clear en_))
          have GB5 := Aside0.mk gb5
          have GG5 := Aside0.mk HG5
          clear gb5 gl5 HG5
          have HMgo5 := Aside0.mk (show (P0_ go5 ∨ w.heap.size ≤ go5) from (HO_0.out.1 _ rfl))
          obtain ⟨hx5_0, hf5_0⟩ := Kd.R_celln 0 HO_0.out (x5_1 : Int) p5 q5
          replace p5 := eq_true p5
          replace q5 := eq_true q5
          have HP7 := Kd.R_putg HO_0.out (x5_1 : Int) x1_1
          go_wp2_with (first | ((with_reducible refine gate_store (t := 3) (p := 15) rfl ?_); refine store_event (t := 3) (p := 15) (v := ?vo_w8) (w1 := (wr.setCell ⟨go5, (x5_1 : Int).toNat, none⟩ (.int .i64 x1_1))) ?hg ?ho ?hn ?hr ?_; (case ho => rfl); (case hg => rfl); (case hn => rfl); (case hr => first | (go_simp; done) | (go_simp; rfl)); intro w8 hw; have hg : wr.grownBy w8 (some go5) := (by rw [hw]; exact HP7.2); have hp_ : Kd.R (Kd.int .i64) 3 w8 w0.heap.size (fun k_ => (P0_ k_ ∨ w.heap.size ≤ k_)) (.slice (some ⟨go5, 0, none⟩) x0_1.length co6) y231 := (by rw [hw, Ny231.out]; exact HP7.1); clear HP7; have n0_ := Aside0.mk (hp_); have n1_ := Aside0.mk ((by rw [hw]; exact below_set (HB.out) GB5.out : Below w0.heap.size w0 w8)); have n2_ := Aside0.mk (Kept.of_grown (S := (fun k_ => P0_ k_)) hg (by repeat (first | (with_reducible first | exact HK.out | apply Kept.alloc | apply Kept.drewN | apply Kept.drew) | exact HK.out)) (fun k_ e_ => (HO_0.out.1 k_ e_))); clear HO_0; clear HB; clear HK; have HO_0 := n0_; have HB := n1_; have HK := n2_; clear n0_ n1_ n2_; clear hg hw hp_))
          go_roundg k1
          case measure => have := HK1.out; omega
          case rel => exact ⟨(y231), (wrap64 (x1_1 + 1)), (wrap64 (x5_1 + 1)), (by first | rfl | (simp; done) | (simp [*]; done)), (by first | rfl | (simp; done) | (simp [*]; done)), H', ⟨by have := HK1.out; omega⟩, ⟨by (with_reducible repeat (first | apply Kd.R_alloc | apply Kd.R_drewN | apply Kd.R_drew)); exact HO_0.out⟩, ⟨by repeat (first | (with_reducible first | exact HK.out | apply Kept.alloc | apply Kept.drewN | apply Kept.drew) | exact HK.out)⟩, ⟨by repeat (first | (with_reducible first | exact HB.out | apply below_alloc | apply pw_below_drewN | apply below_drew1) | exact HB.out)⟩⟩
        · rw [if_neg c4] at H
          exact absurd H (by simp)
      · rw [if_neg c3] at H
        have c3b0 : decide (x5_1 < (x0_1.length : Int)) = false := decide_eq_false c3
        clear c3
        simp only [Option.some.injEq, Prod.mk.injEq] at H
        obtain ⟨rfl, rfl⟩ := H
        obtain ⟨Ao9, co9, eo9⟩ := Kd.R_slice HO_0.out
        subst eo9
        go_wp2
        go_ret
        exact ⟨by first | rfl | (simp [errW_none, errW_some] <;> rfl) | (simp [*, errW_none, errW_some] <;> rfl), by (with_reducible repeat (first | apply Kd.R_alloc | apply Kd.R_drewN | apply Kd.R_drew)); exact HO_0.out, by repeat (first | (with_reducible first | exact HB.out | apply below_alloc | apply pw_below_drewN | apply below_drew1) | exact HB.out), by repeat (first | (with_reducible first | exact HK.out | apply Kept.alloc | apply Kept.drewN | apply Kept.drew) | exact HK.out)⟩

-- FOR laws.markIntSS
-- USES kd int
-- USES kd []int
def mkI : Nat → Int → List Int
  | 0, _ => []
  | n + 1, k => k :: mkI n (k + 1)
theorem mkI_len (n : Nat) (k : Int) : (mkI n k).length = n := by
  induction n generalizing k with
  | zero => rfl
  | succ n ih => simp [mkI, ih]
theorem mkI_l0 (pre post : List Int) (a : Int) (K : Nat) (h0 : 0 ≤ a) (h1 : a + post.length ≤ 1000000000) (h2 : pre.length + post.length ≤ 1000000000) (hK : post.length < K) :
    laws_markIntS.l0 K (pre ++ post) a (pre.length : Int) = some (a + post.length, pre ++ mkI post.length a) := by
  induction post generalizing pre a K with
  | nil =>
    obtain ⟨K, rfl⟩ : ∃ m, K = m + 1 := ⟨K - 1, by simp at hK; omega⟩
    rw [laws_markIntS.l0, if_neg (by simp)]
    simp [mkI]
  | cons x xs ih =>
    obtain ⟨K, rfl⟩ : ∃ m, K = m + 1 := ⟨K - 1, by omega⟩
    rw [List.length_cons] at h1 h2 hK
    rw [laws_markIntS.l0, if_pos (by simp; omega), if_pos (by omega), Hw.wrap_id (by omega) (by omega), Hw.wrap_id (by omega) (by omega), Int.toNat_natCast, List.set_append_right _ _ (Nat.le_refl _), Nat.sub_self, List.set_cons_zero]
    have h := ih (pre ++ [a]) (a + 1) K (by omega) (by omega) (by simp; omega) (by omega)
    rw [List.append_assoc, List.singleton_append, List.length_append, List.length_singleton] at h
    rw [show (pre.length : Int) + 1 = ((pre.length + 1 : Nat) : Int) by omega, h, List.length_cons, mkI]
    simp
    omega
theorem mkI_some (l : List Int) (a : Int) (h0 : 0 ≤ a) (h1 : a + l.length ≤ 1000000000) (K : Nat) (hK : l.length < K) : laws_markIntS.f K l a = some (a + (l.length : Int), mkI l.length a) := by
  have := mkI_l0 [] l a K h0 (by omega) (by simp; omega) hK
  simpa [laws_markIntS.f] using this
def mSS : List (List Int) → Int → List (List Int)
  | [], _ => []
  | x :: xs, a => mkI x.length a :: mSS xs (a + x.length)
def totSS : List (List Int) → Int
  | [] => 0
  | x :: xs => x.length + totSS xs
theorem totSS_nn (l : List (List Int)) : 0 ≤ totSS l := by
  induction l with
  | nil => exact Int.le_refl _
  | cons x xs ih => unfold totSS; omega
theorem mSS_len (l : List (List Int)) (a : Int) : (mSS l a).length = l.length := by
  induction l generalizing a with
  | nil => rfl
  | cons x xs ih => simp [mSS, ih]
def laws_markIntSS.f (_k : Nat) (l : List (List Int)) (a : Int) : Option (Int × List (List Int)) := if 0 ≤ a ∧ a + totSS l ≤ 1000000000 ∧ l.length ≤ 1000000000 then some (a + totSS l, mSS l a) else none
set_option maxHeartbeats 8000000 in
set_option maxRecDepth 1000000 in
theorem laws_markIntSS.calls (k : Nat) (P0_ : Nat → Prop) (u : Value) (l : List (List Int)) (a1 : Int) (r1 : Int) (r2 : List (List Int)) (w0 w : World) (hB : Below w0.heap.size w0 w) (ho : Kd.S (Kd.slice 3 (Kd.int .i64)) 46 w w0.heap.size P0_ u l) (h : laws_markIntSS.f k l a1 = some (r1, r2)) :
    Calls Try.prog 24 #[u, .int .i64 a1] w fun e w' => e = .returned (.int .i64 r1) ∧ Kd.S (Kd.slice 3 (Kd.int .i64)) 46 w' w0.heap.size (fun k_ => P0_ k_ ∨ w.heap.size ≤ k_) u r2 ∧ Below w0.heap.size w0 w' ∧ Kept w w' (fun k_ => P0_ k_) := by
  unfold laws_markIntSS.f at h
  split at h
  case isFalse => cases h
  case isTrue hg =>
  simp only [Option.some.injEq, Prod.mk.injEq] at h
  obtain ⟨hr1, hr2⟩ := h
  obtain ⟨A, c, rfl⟩ := Kd.S_slice ho
  have HB := Aside0.mk hB
  have HO := Aside0.mk ho
  have HG := Aside0.mk hg
  have HR1 := Aside0.mk hr1
  have HR2 := Aside0.mk hr2
  clear hB ho hg hr1 hr2
  go_enter Try.func24, Try.ntmps24
  go_wp2
  go_loopg [1, 5] l.length (fun n v1 v5 w' => ∃ (pre post : List (List Int)) (a : Int), v1 = .int .i64 a ∧ v5 = .int .i64 (pre.length : Int) ∧ Aside0 (pre.length + post.length = l.length ∧ post.length = n ∧ 0 ≤ a ∧ a + totSS post = r1 ∧ pre ++ mSS post a = r2) ∧ Aside0 (Kd.S (Kd.slice 3 (Kd.int .i64)) 46 w' w0.heap.size (fun k_ => P0_ k_ ∨ w.heap.size ≤ k_) (.slice A l.length c) (pre ++ post)) ∧ Aside0 (Below w0.heap.size w0 w') ∧ Aside0 (Kept w w' (fun k_ => P0_ k_)))
  case atStart => exact ⟨[], l, a1, rfl, rfl, ⟨by simp, rfl, HG.out.1, HR1.out, by simpa using HR2.out⟩, ⟨Kd.S_mono HO.out (fun _ hk => .inl hk)⟩, HB, ⟨⟨Nat.le_refl _, fun _ _ _ => rfl⟩⟩⟩
  case round =>
    obtain ⟨pre, post, a, rfl, rfl, HI, HS, HBr, HK⟩ := hrel
    cases post with
    | cons x xs =>
      have hi := HI.out
      rw [List.length_cons] at hi
      have d1 : decide (pre.length < l.length) = true := decide_eq_true (by omega)
      have d2 : ((pre.length : Int) < (l.length : Int)) = True := eq_true (by omega)
      have d3 : (pre.length < l.length) = True := eq_true (by omega)
      obtain ⟨k1, rfl⟩ : ∃ k1, gk = k1 + 1 := ⟨gk - 1, by omega⟩
      have hgl := HG.out
      have w2 : IntKind.i64.wrap ((pre.length : Int) + 1) = ((pre.length + 1 : Nat) : Int) := by rw [Hw.wrap_w (by omega) (by omega)]; omega
      obtain ⟨g, cap, hv, hgb, hgs, _⟩ := Kd.S_form HS.out (by simp; omega)
      injection hv with q1 q2 q3
      subst q1 q3
      obtain ⟨oki, cs, hcl, hM, hcc, hoki, hH⟩ := Kd.S_lend HS.out [] (pre.length : Int) (by omega) (by omega)
      rw [Int.toNat_natCast] at hM hcc
      rw [show (pre ++ x :: xs).getD pre.length [] = x by simp] at hM
      obtain ⟨v, rfl, hRv⟩ := hM
      obtain ⟨Av, cv, rfl⟩ := Kd.R_slice hRv
      have c0 : wr.cell? ⟨g, pre.length, none⟩ = some (.slice Av x.length cv) := by
        have h_ := hcc 0 _ rfl
        rw [show (Kd.slice 3 (Kd.int .i64)).sz = 1 from rfl, Nat.mul_one, Nat.add_zero] at h_
        exact h_
      have ht0 := totSS_nn xs
      have hts : totSS (x :: xs) = x.length + totSS xs := rfl
      have HMK := Aside0.mk (mkI_some x a hi.2.2.1 (by have := HR1.out; omega) (x.length + 1) (Nat.lt_succ_self _))
      have HRv := Aside0.mk hRv
      have HHH := Aside0.mk hH
      have HOK := Aside0.mk hoki
      have HI2 : Aside0 ((pre ++ [mkI x.length a]).length + xs.length = l.length ∧ xs.length = k1 ∧ 0 ≤ a + x.length ∧ a + x.length + totSS xs = r1 ∧ (pre ++ [mkI x.length a]) ++ mSS xs (a + x.length) = r2) := ⟨by
        refine ⟨by simp; omega, by omega, by omega, by omega, ?_⟩
        have h_ := hi.2.2.2.2
        rw [mSS] at h_
        rw [← h_]; simp⟩
      clear hi hgl ht0 hts hRv hH hoki hcc hcl q2
      go_wp2_with (first | (go_at_call 35; refine (laws_markIntS.calls (x.length + 1) oki _ x a _ _ w0 wr HBr.out HRv.out HMK.out).mono ?_; rintro e w3 ⟨rfl, hx, hb, hk⟩; have HX3 := Aside0.mk hx; have HB3 := Aside0.mk hb; have HK3 := Aside0.mk hk; clear hx hb hk))
      have hS : Kd.S (Kd.slice 3 (Kd.int .i64)) 46 w3 w0.heap.size (fun k_ => P0_ k_ ∨ w.heap.size ≤ k_) (.slice (some ⟨g, 0, none⟩) l.length c) ((pre ++ [mkI x.length a]) ++ xs) := by
        have hH1 := Kd.H_step (w1 := w3) (Kd.H_widen HHH.out) (fun k_ _ hn hlt => HK3.out.2 k_ hlt (fun h_ => hn (.inl h_)))
        have hS1 := Kd.H_back hH1 (x' := mkI x.length a) (okp := fun k_ => oki k_ ∨ wr.heap.size ≤ k_) ⟨_, rfl, HX3.out⟩ (fun k_ hk => hk.elim .inl (fun h_ => .inr ⟨.inr (Nat.le_trans HK.out.1 h_), h_⟩))
        rw [Int.toNat_natCast, List.set_append_right _ _ (Nat.le_refl _), Nat.sub_self, List.set_cons_zero] at hS1
        rw [List.append_assoc, List.singleton_append]
        exact hS1
      have hK3 : Kept w w3 (fun k_ => P0_ k_) := ⟨Nat.le_trans HK.out.1 HK3.out.1, fun k_ hlt hn => (HK3.out.2 k_ (Nat.lt_of_lt_of_le hlt HK.out.1) (fun h_ => ((HOK.out k_ h_).1).elim hn (fun h2_ => by omega))).trans (HK.out.2 k_ hlt hn)⟩
      go_roundg k1
      case measure => omega
      case rel => exact ⟨pre ++ [mkI x.length a], xs, a + x.length, rfl, by simp, HI2, ⟨hS⟩, HB3, ⟨hK3⟩⟩
    | nil =>
      have hi := HI.out
      rw [List.length_nil] at hi
      have d1 : decide (pre.length < l.length) = false := decide_eq_false (by omega)
      have hm := hi.2.2.2.2
      have ha := hi.2.2.2.1
      rw [mSS, List.append_nil] at hm
      have ht : totSS [] = 0 := rfl
      rw [ht, Int.add_zero] at ha
      subst ha
      have HS2 := Aside0.mk (hm ▸ (by have h_ := HS.out; rw [List.append_nil] at h_; exact h_ : Kd.S (Kd.slice 3 (Kd.int .i64)) 46 wr w0.heap.size (fun k_ => P0_ k_ ∨ w.heap.size ≤ k_) (.slice A l.length c) pre))
      clear hi hm ht
      go_wp2
      go_ret
      exact ⟨rfl, HS2.out, HBr.out, HK.out⟩


/-! ### laws_heldIntS: function 36 -/
def laws_heldIntS.l0 : Nat → List Int → Int → Int → Option (Int)
  | 0, _, _, _ => none
  | k + 1, x0, x1, x5 => if x5 < (x0.length : Int) then (if 0 ≤ x5 then (if (rd x0 x5) = x1 then (laws_heldIntS.l0 k x0 (wrap64 (x1 + 1)) (wrap64 (x5 + 1))) else (some (-1))) else (none)) else (some x1)
def laws_heldIntS.f (k : Nat) (l0 : List Int) (a1 : Int) : Option (Int) := laws_heldIntS.l0 k l0 a1 0
theorem laws_heldIntS.mono_l : ∀ k, (∀ y0 y1 y2, LeO (laws_heldIntS.l0 k y0 y1 y2) (laws_heldIntS.l0 (k + 1) y0 y1 y2))
  | 0 => fun _ _ _ r h => by simp [laws_heldIntS.l0] at h
  | k + 1 => by
    have ih0 := laws_heldIntS.mono_l k
    · intro y0 y1 y2
      unfold laws_heldIntS.l0
      repeat' first
      | (with_reducible exact ih0 _ _ _)
      | (with_reducible exact LeO.refl _)
      | (with_reducible exact LeO.none _)
      | (with_reducible refine LeO.ite ?_ ?_)
      | (with_reducible refine LeO.bind ?_ (fun _ => ?_))
      | exact ih0 _ _ _
      | exact LeO.none _
      | refine LeO.ite ?_ ?_
      | refine LeO.bind ?_ (fun _ => ?_)
theorem laws_heldIntS.mono : ∀ a0 a1 k, LeO (laws_heldIntS.f k a0 a1) (laws_heldIntS.f (k + 1) a0 a1) := by
  intro a0 a1 k
  have ih0 := laws_heldIntS.mono_l k
  unfold laws_heldIntS.f
  repeat' first
      | (with_reducible exact ih0 _ _ _)
      | (with_reducible exact LeO.refl _)
      | (with_reducible exact LeO.none _)
      | (with_reducible refine LeO.ite ?_ ?_)
      | (with_reducible refine LeO.bind ?_ (fun _ => ?_))
      | exact ih0 _ _ _
      | exact LeO.none _
      | refine LeO.ite ?_ ?_
      | refine LeO.bind ?_ (fun _ => ?_)
set_option maxHeartbeats 8000000 in
set_option maxRecDepth 100000 in
theorem laws_heldIntS.calls (k : Nat) (A0 : Option Addr) (c0 : Nat) (l0 : List Int) (a1 : Int) (r : Int) (w : World) (hr0 : Kd.C (Kd.int .i64) w A0 l0.length l0) (hc0 : l0.length ≤ c0) (h : laws_heldIntS.f k l0 a1 = some r) :
    Calls Try.prog 36 #[.slice A0 l0.length c0, .int .i64 a1] w fun e w' => e = .returned (.int .i64 r) ∧ Drawn0 w w' := by
  have HR0 := Aside0.mk hr0
  have HC0 := Aside0.mk hc0
  clear hr0 hc0
  have H : (laws_heldIntS.l0 k l0 a1 0) = some r := h
  clear h
  have H' := Aside0.mk H
  clear H
  go_enter Try.func36, Try.ntmps36
  go_wp2
  go_loopg [1, 5] k (fun kq v1 v5 w' => ∃ (x1_1 : Int) (x5_1 : Int), v1 = .int .i64 x1_1 ∧ v5 = .int .i64 x5_1 ∧ Aside0 (laws_heldIntS.l0 kq l0 x1_1 x5_1 = some r) ∧ Aside0 (kq ≤ k) ∧ Drawn0 w w')
  case atStart => exact ⟨(a1), (0), (by first | rfl | (simp; done) | (simp [*]; done)), (by first | rfl | (simp; done) | (simp [*]; done)), H', ⟨Nat.le_refl _⟩, by repeat (first | exact Drawn0.refl _ | apply Drawn0.step)⟩
  case round =>
    clear H'
    try clear p2
    obtain ⟨x1_1, x5_1, rfl, rfl, HA, HK1, ⟨m1, rfl⟩⟩ := hrel
    cases gk with
    | zero => exact absurd HA.out (by simp [laws_heldIntS.l0])
    | succ k1 =>
      have H := HA.out
      clear HA
      simp only [laws_heldIntS.l0] at H
      by_cases c3 : x5_1 < (l0.length : Int)
      · rw [if_pos c3] at H
        have c3b0 : decide (x5_1 < (l0.length : Int)) = true := decide_eq_true c3
        clear c3
        by_cases c4 : 0 ≤ x5_1
        · rw [if_pos c4] at H
          have c4b0 : decide (0 ≤ x5_1) = true := decide_eq_true c4
          clear c4
          by_cases c5 : (rd l0 x5_1) = x1_1
          · rw [if_pos c5] at H
            have c5b0 : ((rd l0 x5_1) == x1_1) = true := beq_iff_eq.mpr c5
            have c5b1 : ((rd l0 x5_1) != x1_1) = false := bne_eq_false_iff_eq.mpr c5
            clear c5
            have H' := Aside0.mk H
            clear H
            have p232 : 0 ≤ (x5_1 : Int) := of_decide_eq_true (by first | (with_reducible assumption) | assumption)
            have q232 : x5_1 < (l0.length : Int) := of_decide_eq_true (by first | (with_reducible assumption) | assumption)
            obtain ⟨ad232, e232, hx232_0⟩ := Kd.at_int HR0.out x5_1 p232 q232
            cases e232
            replace p232 := eq_true p232
            replace q232 := eq_true q232
            go_wp2
            go_roundg k1
            case measure => have := HK1.out; omega
            case rel => exact ⟨(wrap64 (x1_1 + 1)), (wrap64 (x5_1 + 1)), (by first | rfl | (simp; done) | (simp [*]; done)), (by first | rfl | (simp; done) | (simp [*]; done)), H', ⟨by have := HK1.out; omega⟩, by repeat (first | exact Drawn0.refl _ | apply Drawn0.step)⟩
          · rw [if_neg c5] at H
            have c5b0 : ((rd l0 x5_1) == x1_1) = false := beq_eq_false_iff_ne.mpr c5
            have c5b1 : ((rd l0 x5_1) != x1_1) = true := bne_iff_ne.mpr c5
            obtain rfl := Option.some.inj H
            have p232 : 0 ≤ (x5_1 : Int) := of_decide_eq_true (by first | (with_reducible assumption) | assumption)
            have q232 : x5_1 < (l0.length : Int) := of_decide_eq_true (by first | (with_reducible assumption) | assumption)
            obtain ⟨ad232, e232, hx232_0⟩ := Kd.at_int HR0.out x5_1 p232 q232
            cases e232
            replace p232 := eq_true p232
            replace q232 := eq_true q232
            go_wp2
            go_ret
            exact ⟨by first | rfl | (simp; done) | (simp [*]; done), by repeat (first | exact Drawn0.refl _ | apply Drawn0.step)⟩
        · rw [if_neg c4] at H
          exact absurd H (by simp)
      · rw [if_neg c3] at H
        have c3b0 : decide (x5_1 < (l0.length : Int)) = false := decide_eq_false c3
        clear c3
        obtain rfl := Option.some.inj H
        go_wp2
        go_ret
        exact ⟨by first | rfl | (simp; done) | (simp [*]; done), by repeat (first | exact Drawn0.refl _ | apply Drawn0.step)⟩

end Go.Proofs.Ytoomacelbhojhaa.V
