/- Plain Lean functions with the answers of Go functions, and proofs of it: printed by a program of this session (pr.py) over the kit's print, with hand-written parts. -/
import Derived.Test.YtoomacelbhojhaaDx0
import Derived.Test.YtoomacelbhojhaaDx2
import Derived.Test.YtoomacelbhojhaaDx4
namespace Go.Proofs.Ytoomacelbhojhaa.D
open Go.RowKit Go.Proofs.YtoomacelbhojhaaW.PrintWords Go.Proofs.YtoomacelbhojhaaW.PrintLast Go.Proofs.YtoomacelbhojhaaW.PrintMore
attribute [local go_sem] max2_int min2_int max_two min_two max_three min_three max_four min_four   -- for this text's walks alone
set_option linter.unusedVariables false
set_option linter.unusedSimpArgs false

-- FOR (*spec.csTable).least
-- CALLS (*spec.csTable).by ; spec.csCan

theorem csCan_is (e f0 : Nat) : spec_csCan.f (e : Int) (f0 : Int) = some (decide (2 ≤ e ∨ f0 = 0)) := by
  unfold spec_csCan.f
  by_cases h : 2 ≤ e
  · rw [if_pos (by omega), decide_eq_true (.inl h)]
  · rw [if_neg (by omega)]
    by_cases h2 : f0 = 0
    · subst h2; simp
    · rw [decide_eq_false (by omega)]
      simp [h2]
def bestTo (p : CP) (e n s f : Nat) : Int := if f = 0 then -1 else mnF (cFst p e n s) f
set_option maxHeartbeats 8000000 in
set_option maxRecDepth 100000 in
theorem csleast.calls (w : World) (g : Nat) (p : CP) (t : TS) (V : Bool → Nat → Nat → Int) (e n s : Nat) (hb : Bx w g p t) (hR : Rows w t V) (hp : p.Ok) (hd : 1 ≤ e ∧ e ≤ t.E ∧ t.E ≤ 10 ∧ 1 ≤ n ∧ n ≤ t.N ∧ t.N ≤ 60 ∧ s ≤ 1)
    (hL : ∀ m, m < n → V false e m = cst p e m 0) (hH : ∀ m, m < n → (2 ≤ e ∨ m = 0) → V true (e - 1) m = cst p (e - 1) m 1) :
    Calls Try.prog 109 #[.pointer (some ⟨g, 0, none⟩), .int .i64 (e : Int), .int .i64 (n : Int), .int .i64 (if s = 1 then (n : Int) + 1 else 0)] w fun e_ w' => e_ = .returned (.int .i64 (cst p e n s)) ∧ Below w.heap.size w w' := by
  have FB : Aside0 (∀ f, 1 ≤ f → f ≤ n → (2 ≤ e ∨ f = 1) → ∀ W, Below w.heap.size w W → Calls Try.prog 144 #[.pointer (some ⟨g, 0, none⟩), .int .i64 (e : Int), .int .i64 (n : Int), .int .i64 (if s = 1 then (n : Int) + 1 else 0), .int .i64 (f : Int)] W fun e_ w' => e_ = .returned (.int .i64 (cFst p e n s f)) ∧ Below W.heap.size W w') := ⟨fun f h1 h2 h3 W hW => csby.calls W g p t V e n s f (hb.below hW) (hR.below hW) hp (by omega) (hL _ (by omega)) (hH _ (by omega) (by omega))⟩
  have HE : Aside0 (1 ≤ e ∧ e ≤ 10 ∧ 1 ≤ n ∧ n ≤ 60 ∧ s ≤ 1) := ⟨by omega⟩
  have HP := Aside0.mk hp
  obtain ⟨frm, hfr⟩ : ∃ frm : Int, frm = (if s = 1 then (n : Int) + 1 else 0) := ⟨_, rfl⟩
  rw [← hfr] at FB ⊢
  clear hb hR hp hd hL hH hfr
  go_enter Try.func109, Try.ntmps109
  go_wp2
  go_loopg [9, 10] n (fun k v9 v10 w' => ∃ f : Nat, v10 = .int .i64 ((f : Int) + 1) ∧ v9 = .int .i64 (bestTo p e n s f) ∧ Aside0 (f + k = n) ∧ Aside0 (Below w.heap.size w w'))
  case atStart => exact ⟨0, rfl, rfl, ⟨by omega⟩, ⟨by repeat (first | exact Below.refl _ _ | refine below_alloc ?_ _)⟩⟩
  case round =>
    obtain ⟨f0, rfl, rfl, HK, HB⟩ := hrel
    by_cases hlf : f0 < n
    · obtain ⟨f, hf⟩ : ∃ f, f = f0 + 1 := ⟨_, rfl⟩
      have hf2 : (f0 : Int) + 1 = (f : Int) := by omega
      rw [hf2]
      have d4 : decide ((f : Int) ≤ (n : Int)) = true := decide_eq_true (by omega)
      have d6 : (f ≤ n) = True := eq_true (by omega)
      have wf0 : IntKind.i64.wrap ((f : Int) - 1) = (f0 : Int) := (Hw.wrap_w (by omega) (by have := HE.out; omega)).trans (by omega)
      have wf : IntKind.i64.wrap ((f : Int) + 1) = (f : Int) + 1 := Hw.wrap_w (by omega) (by have := HE.out; omega)
      obtain ⟨x, hx⟩ : ∃ x, x = cFst p e n s f := ⟨_, rfl⟩
      have hxb := cFst_bd HP.out (e := e) (s := s) (n := n) (f := f) (by omega) (by omega) (by have := HE.out; omega)
      obtain ⟨m, hm⟩ : ∃ m, m = bestTo p e n s f0 := ⟨_, rfl⟩
      have HCan := Aside0.mk (csCan_is e f0)
      have HF := Aside0.mk (And.intro hf hlf)
      rw [← hm]
      by_cases hc : 2 ≤ e ∨ f0 = 0
      · rw [decide_eq_true hc] at HCan
        have FC := Aside0.mk (FB.out f (by omega) (by omega) (by omega))
        rw [← hx] at FC
        by_cases h0 : f0 = 0
        · have hm0 : (m < 0) = True := eq_true (by rw [hm, h0]; unfold bestTo; rw [if_pos rfl]; decide)
          have hm1 : decide (m < 0) = true := decide_eq_true (by rw [hm, h0]; unfold bestTo; rw [if_pos rfl]; decide)
          have HN : Aside0 (x = bestTo p e n s f) := ⟨by
            have hf1 : f = 1 := by omega
            have h1 := cst_fin' HP.out (e := e) (by have := HE.out; omega) (n := n - 1) 0 (by have := HE.out; omega)
            have a := cWay_bd (s := s) (n := n) (f := 1) (by omega) (by omega)
            have b := cMul_bd HP.out (x := cWay s n 1) (by omega) (by have := HE.out; omega)
            have hpp := HP.out
            have h3 : x ≤ cNever := by
              rw [hx, hf1]
              unfold cFst
              rw [show 1 - 1 = 0 by omega, cst_zero]
              unfold CP.Ok at hpp
              unfold cNever
              omega
            unfold bestTo
            rw [hf1] at hx
            rw [if_neg (by omega), hf1]
            show x = min cNever (cFst p e n s 1)
            rw [← hx]
            omega⟩
          have HX := Aside0.mk (And.intro hx (And.intro hm h0))
          clear hlf hf hf2 hx hxb hm hc h0
          go_wp2_with (first | ((with_reducible refine gate_callee (f := 143) rfl ?_); refine goesL_ (some 20) rfl rfl Try.func143 (by kernel_rfl) rfl #[.int .i64 (e : Int), .int .i64 (f0 : Int)] rfl (by (try simp only [List.map_toArray, List.map_cons, List.map_nil]); first | done | rfl) ?_; refine (spec_csCan.calls _ _ true _ HCan.out).mono ?_; rintro e_ w_1 ⟨rfl, hd_⟩; refine ⟨_, rfl, ?_⟩; have hb_ := hd_.below; clear hd_; have hB_ := Hx.bb_below hb_ HB.out; clear HB; have HB := Aside0.mk hB_; clear hB_ hb_) | ((with_reducible refine gate_callee (f := 144) rfl ?_); refine goesL_ (some 26) rfl rfl Try.func144 (by kernel_rfl) rfl #[.pointer (some ⟨g, 0, none⟩), .int .i64 (e : Int), .int .i64 (n : Int), .int .i64 frm, .int .i64 (f : Int)] rfl (by (try simp only [List.map_toArray, List.map_cons, List.map_nil]); first | done | rfl) ?_; refine (FC.out _ HB.out).mono ?_; rintro e_ w_2 ⟨rfl, hb_⟩; refine ⟨_, rfl, ?_⟩; have hB_ := Hx.bb_below hb_ HB.out; clear HB; have HB := Aside0.mk hB_; clear hB_ hb_))
          go_roundg (n - f)
          case measure => have := HK.out; have := HF.out; omega
          case rel => exact ⟨f, rfl, by rw [HN.out], ⟨by have := HK.out; have := HF.out; omega⟩, HB⟩
        · have hmm : m = mnF (cFst p e n s) f0 := by rw [hm]; unfold bestTo; rw [if_neg h0]
          have hm2 : 0 ≤ m := by rw [hmm]; exact mnF_lo (fun q a b => (cFst_bd HP.out a (Nat.le_trans b (Nat.le_of_lt hlf)) (by have := HE.out; omega)).1)
          have hm0 : (m < 0) = False := eq_false (by omega)
          have hm1 : decide (m < 0) = false := decide_eq_false (by omega)
          have hN : min m x = bestTo p e n s f := by
            unfold bestTo
            rw [if_neg (by omega), hf, mnF, ← hf, ← hx, hmm]
          by_cases hlx : x < m
          · have hl1 : (x < m) = True := eq_true hlx
            have hl2 : decide (x < m) = true := decide_eq_true hlx
            have HN : Aside0 (x = bestTo p e n s f) := ⟨by omega⟩
            have HX := Aside0.mk (And.intro hx (And.intro hm h0))
            clear hlf hf hf2 hx hxb hm hc h0 hmm hm2 hN hlx
            go_wp2_with (first | ((with_reducible refine gate_callee (f := 143) rfl ?_); refine goesL_ (some 20) rfl rfl Try.func143 (by kernel_rfl) rfl #[.int .i64 (e : Int), .int .i64 (f0 : Int)] rfl (by (try simp only [List.map_toArray, List.map_cons, List.map_nil]); first | done | rfl) ?_; refine (spec_csCan.calls _ _ true _ HCan.out).mono ?_; rintro e_ w_1 ⟨rfl, hd_⟩; refine ⟨_, rfl, ?_⟩; have hb_ := hd_.below; clear hd_; have hB_ := Hx.bb_below hb_ HB.out; clear HB; have HB := Aside0.mk hB_; clear hB_ hb_) | ((with_reducible refine gate_callee (f := 144) rfl ?_); refine goesL_ (some 26) rfl rfl Try.func144 (by kernel_rfl) rfl #[.pointer (some ⟨g, 0, none⟩), .int .i64 (e : Int), .int .i64 (n : Int), .int .i64 frm, .int .i64 (f : Int)] rfl (by (try simp only [List.map_toArray, List.map_cons, List.map_nil]); first | done | rfl) ?_; refine (FC.out _ HB.out).mono ?_; rintro e_ w_2 ⟨rfl, hb_⟩; refine ⟨_, rfl, ?_⟩; have hB_ := Hx.bb_below hb_ HB.out; clear HB; have HB := Aside0.mk hB_; clear hB_ hb_))
            go_roundg (n - f)
            case measure => have := HK.out; have := HF.out; omega
            case rel => exact ⟨f, rfl, by rw [HN.out], ⟨by have := HK.out; have := HF.out; omega⟩, HB⟩
          · have hl1 : (x < m) = False := eq_false hlx
            have hl2 : decide (x < m) = false := decide_eq_false hlx
            have HN : Aside0 (m = bestTo p e n s f) := ⟨by omega⟩
            have HX := Aside0.mk (And.intro hx (And.intro hm h0))
            clear hlf hf hf2 hx hxb hm hc h0 hmm hm2 hN hlx
            go_wp2_with (first | ((with_reducible refine gate_callee (f := 143) rfl ?_); refine goesL_ (some 20) rfl rfl Try.func143 (by kernel_rfl) rfl #[.int .i64 (e : Int), .int .i64 (f0 : Int)] rfl (by (try simp only [List.map_toArray, List.map_cons, List.map_nil]); first | done | rfl) ?_; refine (spec_csCan.calls _ _ true _ HCan.out).mono ?_; rintro e_ w_1 ⟨rfl, hd_⟩; refine ⟨_, rfl, ?_⟩; have hb_ := hd_.below; clear hd_; have hB_ := Hx.bb_below hb_ HB.out; clear HB; have HB := Aside0.mk hB_; clear hB_ hb_) | ((with_reducible refine gate_callee (f := 144) rfl ?_); refine goesL_ (some 26) rfl rfl Try.func144 (by kernel_rfl) rfl #[.pointer (some ⟨g, 0, none⟩), .int .i64 (e : Int), .int .i64 (n : Int), .int .i64 frm, .int .i64 (f : Int)] rfl (by (try simp only [List.map_toArray, List.map_cons, List.map_nil]); first | done | rfl) ?_; refine (FC.out _ HB.out).mono ?_; rintro e_ w_2 ⟨rfl, hb_⟩; refine ⟨_, rfl, ?_⟩; have hB_ := Hx.bb_below hb_ HB.out; clear HB; have HB := Aside0.mk hB_; clear hB_ hb_))
            go_roundg (n - f)
            case measure => have := HK.out; have := HF.out; omega
            case rel => exact ⟨f, rfl, by rw [HN.out], ⟨by have := HK.out; have := HF.out; omega⟩, HB⟩
      · rw [decide_eq_false hc] at HCan
        have HN : Aside0 (m = bestTo p e n s f) := ⟨by
          have he1 : e = 1 := by have := HE.out; omega
          rw [hm]
          unfold bestTo
          rw [if_neg (by omega), if_neg (by omega), hf]
          refine (mnF_skip ?_).symm
          rw [he1]
          exact cFst_no HP.out (by omega) (by omega) (by have := HE.out; omega)⟩
        have HX := Aside0.mk (And.intro hx hm)
        clear hlf hf hf2 hx hxb hm hc
        go_wp2_with (first | ((with_reducible refine gate_callee (f := 143) rfl ?_); refine goesL_ (some 20) rfl rfl Try.func143 (by kernel_rfl) rfl #[.int .i64 (e : Int), .int .i64 (f0 : Int)] rfl (by (try simp only [List.map_toArray, List.map_cons, List.map_nil]); first | done | rfl) ?_; refine (spec_csCan.calls _ _ false _ HCan.out).mono ?_; rintro e_ w_1 ⟨rfl, hd_⟩; refine ⟨_, rfl, ?_⟩; have hb_ := hd_.below; clear hd_; have hB_ := Hx.bb_below hb_ HB.out; clear HB; have HB := Aside0.mk hB_; clear hB_ hb_))
        go_roundg (n - f)
        case measure => have := HK.out; have := HF.out; omega
        case rel => exact ⟨f, rfl, by rw [HN.out], ⟨by have := HK.out; have := HF.out; omega⟩, HB⟩
    · have d4 : decide ((f0 : Int) + 1 ≤ (n : Int)) = false := decide_eq_false (by omega)
      have d6 : ((f0 : Int) + 1 ≤ (n : Int)) = False := eq_false (by omega)
      have HN : Aside0 (bestTo p e n s f0 = cst p e n s) := ⟨by
        have h1 := HE.out
        rw [show f0 = n by have := HK.out; omega, cst_eq p s (by omega) (by omega)]
        unfold bestTo
        rw [if_neg (by omega)]⟩
      rw [HN.out]
      clear hlf
      go_wp2
      go_ret
      exact ⟨rfl, HB.out⟩


end Go.Proofs.Ytoomacelbhojhaa.D
