/- The law FnExactFirstHouseDrop: for every argument the call returns true. No condition beside what a machine's values are. -/
import Derived.Test.YtoomacelbhojhaaHw
import Derived.Test.YtoomacelbhojhaaFeints
namespace Go.Proofs.Ytoomacelbhojhaa.Pure
open Go.RowKit Go.Proofs.Ytoomacelbhojhaa Go.Proofs.Ytoomacelbhojhaa.F Go.Proofs.YtoomacelbhojhaaW.PrintWords Go.Proofs.YtoomacelbhojhaaW.PrintLast Go.Proofs.YtoomacelbhojhaaW.PrintMore
set_option linter.unusedVariables false
set_option linter.unusedSimpArgs false

theorem tests_none {v : VS} (hv : VGood v) (h : v.need = 0) : v.tests = [] := by
  cases hg : v.tests with
  | nil => rfl
  | cons t ts =>
    have := vAft_need hv (mem_vTests (show t ∈ v.tests by rw [hg]; simp))
    omega
theorem first_is (a0 : Int) (l1 : List Int) : impl_FirstHouseDrop.f a0 l1 = some (firstH a0 l1) := by
  unfold impl_FirstHouseDrop.f firstH
  rw [show impl_GoodHouseDrops.f a0 l1 = some (goodH a0 l1) from rfl, Option.bind_some]
  unfold goodH
  cases ha : hAsk a0 l1 with
  | false => simp
  | true =>
    have hg := hAsk_good ha
    by_cases hn : (vOf a0 l1).need = 0
    · have h0 : vLits (vOf a0 l1) (vOf a0 l1).tests = [] := by rw [tests_none (vOf_good hg.1 hg.2.1) hn]; rfl
      simp [h0, hn]
    · obtain ⟨ys, hys⟩ := vLits_first ⟨vOf_good hg.1 hg.2.1, by have := need_lo (vOf a0 l1); omega, hg.2.2⟩
      simp only [if_true, true_and, ne_eq, hn, not_false_eq_true]
      rw [← hys]
      simp [rd_L1, rd]
      omega
theorem walk_FnExactFirstHouseDrop (a0 : Int) (A1 : Option Addr) (c1 : Nat) (l1 : List Int) (w : World) (hr1 : Kd.C (Kd.int .i64) w A1 l1.length l1) (hc1 : l1.length ≤ c1) :
    Calls Try.prog 8 #[.int .i64 a0, .slice A1 l1.length c1] w fun e w' => e = .returned (.bool true) ∧ Below w.heap.size w w' := by
  have hm := Kd.C_max hr1
  by_cases hb : (l1.length : Int) ≤ 1000000
  · obtain ⟨F, F', t, f1, f2, f3, f4, f5, f6, f7, f8⟩ := intFacts0 l1 (by omega) 4000000 (by omega)
    obtain ⟨r1, r2, r3, hR⟩ : ∃ r1 r2 r3, firstH a0 l1 = (r1, r2, r3) := ⟨_, _, _, rfl⟩
    exact hand_FnExactFirstHouseDrop 4000000 a0 A1 c1 l1 w hr1 hc1 F F' [] t 0 r1 r2 r3 f1 f2 f3 f4 f5 f6 f7 f8 (congrArg some hR) ((first_is a0 l1).trans (congrArg some hR)) hb
  · exact big_FnExactFirstHouseDrop a0 A1 c1 l1 w (by omega) (by omega)

end Go.Proofs.Ytoomacelbhojhaa.Pure
