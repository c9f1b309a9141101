/- Plain Lean functions with the answers of Go functions, and proofs of it: printed by a program of this session (pr.py) over the kit's print, with hand-written parts. -/
import Derived.Test.YtgolncpnephdcaaCx0
import Derived.Test.YtgolncpnephdcaaCx1
import Derived.Test.YtgolncpnephdcaaCx2
import Derived.Test.YtgolncpnephdcaaCx3
namespace Go.Proofs.Ytgolncpnephdcaa.C
open Go.RowKit Go.Proofs.YtgolncpnephdcaaW.PrintWords Go.Proofs.YtgolncpnephdcaaW.PrintLast Go.Proofs.YtgolncpnephdcaaW.PrintMore
attribute [local go_sem] max2_int min2_int max_two min_two max_three min_three max_four min_four   -- for this text's walks alone
set_option linter.unusedVariables false
set_option linter.unusedSimpArgs false

-- FOR laws.FnExactCountLeft
theorem toTrueCountLeft (F F' L : List S65) (l0 : List S67) (W : World) (A : Option Addr) (n c : Nat) (h0 : l0.length = 0 → F' = []) (h2 : l0.length ≠ 0 → F' = F) (hL : F.take l0.length = L) (hLl : L.length = l0.length) (hLF : L.length ≤ F.length) (q1 : F'.length ≤ c) (q2 : Kd.C k65 W A F'.length F') (hn : n = l0.length ∨ F' = [] ∧ n = 0) :
    n = L.length ∧ Kd.C k65 W A L.length L ∧ L.length ≤ c := by
  by_cases hz : l0.length = 0
  · have h_ := h0 hz
    subst h_
    have hLn : L = [] := List.eq_nil_of_length_eq_zero (hLl.trans hz)
    subst hLn
    refine ⟨?_, q2, Nat.zero_le _⟩
    rcases hn with h_ | ⟨_, h_⟩
    · rw [h_, hz]; rfl
    · exact h_
  · have h_ := h2 hz
    subst h_
    refine ⟨?_, by have h_ := Hw.C_take q2 L.length hLF; rw [hLl, hL, ← hLl] at h_; exact h_, Nat.le_trans hLF q1⟩
    rcases hn with h_ | ⟨h_, h3_⟩
    · exact h_.trans hLl.symm
    · rw [h3_, ← hL, h_]; simp
set_option maxHeartbeats 8000000 in
set_option maxRecDepth 100000 in
theorem hand_FnExactCountLeft (k : Nat) (a0 : Int) (A1 : Option Addr) (c1 : Nat) (l1 : List S67) (w : World) (hr : Kd.C k67 w A1 l1.length l1) (hc : l1.length ≤ c1)
    (F F' L : List S65) (t : Int) (r1 : Int) (r2 : Bool) (s : Int) (hs : laws_szKindTestS.f l1 1000000 = some s) (hs0 : 0 ≤ s)
    (hF : full_toKindTestS.f k l1 false = some F) (hL : F.take l1.length = L) (hLl : L.length = l1.length) (hF' : full_toKindTestS.f k l1 true = some F') (hF2 : l1.length ≠ 0 → F' = F) (hF0 : l1.length = 0 → F' = [])
    (ht : laws_roomBehind.f (l1.length : Int) = some t) (hn : wrap64 ((l1.length : Int) + t) = (F.length : Int)) (he : laws_eqKindTestS.f k F F = some true)
    (h1 : spec_CountLeft.f k a0 L = some (r1, r2)) (h2 : impl_CountLeft.f k a0 L = some (r1, r2)) :
    Calls Try.prog 5 #[.int .i64 a0, .slice A1 l1.length c1] w fun e w' => e = .returned (.bool true) ∧ Below w.heap.size w w' := by
  have HR := Aside0.mk hr
  have HC := Aside0.mk hc
  have H0 := Aside0.mk hs
  have HF := Aside0.mk hF
  have HF' := Aside0.mk hF'
  have HT := Aside0.mk ht
  have HN := Aside0.mk hn
  have HE := Aside0.mk he
  have H1 := Aside0.mk h1
  have H2 := Aside0.mk h2
  have HF2 := Aside0.mk hF2
  have HF0 := Aside0.mk hF0
  have HL := Aside0.mk hL
  have HLl := Aside0.mk hLl
  have hs1 : decide (s < 0) = false := decide_eq_false (by omega)
  have HL2 : Aside0 (L.length ≤ F.length) := ⟨by rw [← hL, List.length_take]; omega⟩
  have hr1_ : (r1 != r1) = false := by simp
  have hr2_ : (r2 != r2) = false := by simp
  clear hs0 hr hc hs hF hF' ht hn he h1 h2 hF2 hF0 hL hLl
  go_enter Try.func5, Try.ntmps5
  go_wp2_with fail
  refine (laws_szKindTestS.calls _ _ l1 _ _ _ HR.out HC.out H0.out).mono ?_
  rintro e w1 ⟨rfl, ⟨nd, hnd⟩⟩
  have HB1 : Aside0 (Below w.heap.size w w1) := ⟨by rw [hnd]; exact pw_below_drewN (Below.refl _ _) _⟩
  clear hnd
  go_wp2_with fail
  refine (full_toKindTestS.calls k _ _ l1 false F _ (Kd.C_below HR.out HB1.out) HC.out HF.out).mono ?_
  rintro e w2 hp
  obtain ⟨A2_, n2_, c2_, rfl, hR_, hn2_, hb⟩ := hp
  obtain rfl : n2_ = L.length := (by rcases hn2_ with h_ | ⟨h_, h2_⟩; exact h_.trans HLl.out.symm; exact h2_.trans (by rw [← HL.out, h_]; simp))
  have HB2 : Aside0 (Below w.heap.size w w2) := ⟨below_step HB1.out hb⟩
  have hq_ := Kd.R_reads' hR_
  have HC2 : Aside0 (Kd.C k65 w2 A2_ L.length L) := ⟨by have h_ := Hw.C_take hq_.2.2 L.length HL2.out; rw [HLl.out, HL.out, ← HLl.out] at h_; exact h_⟩
  have HC2' : Aside0 (L.length ≤ c2_) := ⟨Nat.le_trans HL2.out hq_.2.1⟩
  clear HB1 hb hR_ hn2_ hq_
  go_wp2_with fail
  refine (spec_CountLeft.calls k a0 _ _ L r1 r2 w2 HC2.out HC2'.out H1.out).mono ?_
  rintro e w3 ⟨rfl, hb⟩
  have HB3 : Aside0 (Below w.heap.size w w3) := ⟨below_step HB2.out hb⟩
  clear HB2 hb HC2 HC2'
  go_wp2_with fail
  refine (full_toKindTestS.calls k _ _ l1 false F _ (Kd.C_below HR.out HB3.out) HC.out HF.out).mono ?_
  rintro e w4 hp
  obtain ⟨A4_, n4_, c4_, rfl, hR_, hn4_, hb⟩ := hp
  obtain rfl : n4_ = L.length := (by rcases hn4_ with h_ | ⟨h_, h2_⟩; exact h_.trans HLl.out.symm; exact h2_.trans (by rw [← HL.out, h_]; simp))
  have HB4 : Aside0 (Below w.heap.size w w4) := ⟨below_step HB3.out hb⟩
  have hq_ := Kd.R_reads' hR_
  have HC4' : Aside0 (F.length ≤ c4_) := ⟨hq_.2.1⟩
  have HY4 : Aside0 (Kd.R k65 65 w4 w.heap.size (fun k_ => w3.heap.size ≤ k_ ∧ k_ < w4.heap.size) (.slice A4_ F.length c4_) F) := ⟨Kd.R_mono (Kd.R_lower (Kd.R_bound hR_) (below_size HB3.out)) (fun k_ hk => ⟨hk.2.1, hk.2.2.1⟩)⟩
  have HX4 : Aside0 (Kd.R k65 65 w4 w.heap.size (fun k_ => w3.heap.size ≤ k_ ∧ k_ < w4.heap.size) (.slice A4_ L.length c4_) L) := ⟨by
    have h_ := Hw.R_take hR_ L.length HL2.out
    rw [HLl.out, HL.out, ← HLl.out] at h_
    exact Kd.R_mono (Kd.R_lower (Kd.R_bound h_) (below_size HB3.out)) (fun k_ hk => ⟨hk.2.1, hk.2.2.1⟩)⟩
  have HS34 : Aside0 (w3.heap.size ≤ w4.heap.size) := ⟨hb.size⟩
  clear HB3 hb hR_ hn4_ hq_
  go_wp2_with fail
  refine (impl_CountLeft.calls k a0 _ _ L r1 r2 _ (Kd.R_reads' HX4.out).2.2 (Kd.R_reads' HX4.out).2.1 H2.out).mono ?_
  rintro e w5 ⟨rfl, hb⟩
  have HB5 : Aside0 (Below w.heap.size w w5) := ⟨below_step HB4.out hb⟩
  have HY5 : Aside0 (Kd.R k65 65 w5 w.heap.size (fun k_ => w3.heap.size ≤ k_ ∧ k_ < w4.heap.size) (.slice A4_ F.length c4_) F) := ⟨Kd.R_below HY4.out hb⟩
  have HX5 : Aside0 (Kd.R k65 65 w5 w.heap.size (fun k_ => w3.heap.size ≤ k_ ∧ k_ < w4.heap.size) (.slice A4_ L.length c4_) L) := ⟨Kd.R_below HX4.out hb⟩
  clear HB4 HY4 HX4 hb
  go_wp2_with fail
  refine (full_toKindTestS.calls k _ _ l1 false F _ (Kd.C_below HR.out HB5.out) HC.out HF.out).mono ?_
  rintro e w6 hp
  obtain ⟨A7_, n7_, c7_, rfl, hR_, hn7_, hb⟩ := hp
  obtain rfl : n7_ = L.length := (by rcases hn7_ with h_ | ⟨h_, h2_⟩; exact h_.trans HLl.out.symm; exact h2_.trans (by rw [← HL.out, h_]; simp))
  have HB6 : Aside0 (Below w.heap.size w w6) := ⟨below_step HB5.out hb⟩
  have HY6 : Aside0 (Kd.R k65 65 w6 w.heap.size (fun k_ => w3.heap.size ≤ k_ ∧ k_ < w4.heap.size) (.slice A4_ F.length c4_) F) := ⟨Kd.R_below HY5.out hb⟩
  have HX6 : Aside0 (Kd.R k65 65 w6 w.heap.size (fun k_ => w3.heap.size ≤ k_ ∧ k_ < w4.heap.size) (.slice A4_ L.length c4_) L) := ⟨Kd.R_below HX5.out hb⟩
  have HD7 := Aside0.mk (Kd.R_reads' hR_)
  clear HB5 HY5 HX5 hb hR_ hn7_
  go_wp2_with fail
  refine (intact_KindTestS k F A4_ A7_ L.length c4_ c7_ t w6 (by rw [HLl.out]; exact HT.out) (by rw [HLl.out]; exact HN.out) HC4'.out HD7.out.2.1 (Kd.R_reads' HY6.out).2.2 HD7.out.2.2 HE.out).mono ?_
  rintro e w7 ⟨rfl, hb⟩
  have HB7 : Aside0 (Below w.heap.size w w7) := ⟨below_step HB6.out hb⟩
  have HY7 : Aside0 (Kd.R k65 65 w7 w.heap.size (fun k_ => w3.heap.size ≤ k_ ∧ k_ < w4.heap.size) (.slice A4_ F.length c4_) F) := ⟨Kd.R_below HY6.out hb⟩
  have HX7 : Aside0 (Kd.R k65 65 w7 w.heap.size (fun k_ => w3.heap.size ≤ k_ ∧ k_ < w4.heap.size) (.slice A4_ L.length c4_) L) := ⟨Kd.R_below HX6.out hb⟩
  clear HB6 HY6 HX6 hb HD7
  go_wp2_with fail
  refine (full_toKindTestS.calls k _ _ l1 true F' _ (Kd.C_below HR.out HB7.out) HC.out HF'.out).mono ?_
  rintro e w13 hp
  obtain ⟨A13_, n13_, c13_, rfl, hR_, hn13_, hb⟩ := hp
  have hq_ := Kd.R_reads' hR_
  obtain ⟨rfl, h131, h132⟩ := toTrueCountLeft F F' L l1 w13 A13_ n13_ c13_ HF0.out HF2.out HL.out HLl.out HL2.out hq_.2.1 hq_.2.2 hn13_
  have HB13 : Aside0 (Below w.heap.size w w13) := ⟨below_step HB7.out hb⟩
  have H131 := Aside0.mk h131
  have H132 := Aside0.mk h132
  clear HB7 hb hR_ hn13_ hq_ h131 h132
  go_wp2_with fail
  refine (impl_CountLeft.calls k a0 _ _ L r1 r2 w13 H131.out H132.out H2.out).mono ?_
  rintro e w14 ⟨rfl, hb⟩
  have HB14 : Aside0 (Below w.heap.size w w14) := ⟨below_step HB13.out hb⟩
  clear HB13 hb
  go_wp2
  go_ret
  exact ⟨rfl, HB14.out⟩
set_option maxHeartbeats 8000000 in
set_option maxRecDepth 100000 in
theorem big_FnExactCountLeft (a0 : Int) (A1 : Option Addr) (c1 : Nat) (l1 : List S67) (w : World) (hr : Kd.C k67 w A1 l1.length l1) (hc : l1.length ≤ c1) (s : Int) (hs : laws_szKindTestS.f l1 1000000 = some s) (hs0 : s < 0) :
    Calls Try.prog 5 #[.int .i64 a0, .slice A1 l1.length c1] w fun e w' => e = .returned (.bool true) ∧ Below w.heap.size w w' := by
  have HR := Aside0.mk hr
  have HC := Aside0.mk hc
  have H0 := Aside0.mk hs
  have hs1 : decide (s < 0) = true := decide_eq_true hs0
  clear hr hc hs hs0
  go_enter Try.func5, Try.ntmps5
  go_wp2_with fail
  refine (laws_szKindTestS.calls _ _ l1 _ _ _ HR.out HC.out H0.out).mono ?_
  rintro e w1 ⟨rfl, ⟨nd, hnd⟩⟩
  have HB1 : Aside0 (Below w.heap.size w w1) := ⟨by rw [hnd]; exact pw_below_drewN (Below.refl _ _) _⟩
  clear hnd
  go_wp2
  go_ret
  exact ⟨rfl, HB1.out⟩


end Go.Proofs.Ytgolncpnephdcaa.C
