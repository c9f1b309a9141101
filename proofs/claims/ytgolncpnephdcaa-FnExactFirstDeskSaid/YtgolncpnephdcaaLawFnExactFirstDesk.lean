/- The law FnExactFirstDesk: whatever the input, the call returns true, and the input reads behind it as it did. No condition. -/
import Derived.Test.YtgolncpnephdcaaRows
import Derived.Test.YtgolncpnephdcaaFx2
import Derived.Test.YtgolncpnephdcaaPureFnExactFirstDesk
import Derived.Test.YtgolncpnephdcaaHr
import Derived.Test.YtgolncpnephdcaaHs
import Derived.Test.YtgolncpnephdcaaWSized
import Derived.WalkKit
import Derived.ProofKit
import Derived.OpenShut
import Derived.ShutString
import Derived.ChangeOld
import Derived.Below
import Derived.SizedLaws
import Derived.Deep.Slices
import Derived.Deep.Strs
import Derived.Lib.SmallJoins
namespace Go.Proofs.Ytgolncpnephdcaa.fnExactFirstDesk
open Go.ChangeShapes Go.WideShapes Go.ChangeAt Go.RowKit Go.Proofs.Ytgolncpnephdcaa.F Go.Proofs.YtgolncpnephdcaaW.PrintWords
open Go.ChangeMaps (open_string shut_string)
set_option linter.unusedVariables false
set_option linter.unusedSimpArgs false
theorem own : ownKnob Try.prog.godebug = none := by kernel_rfl
theorem laidOut : laidOutB Try.prog = true := by kernel_rfl
set_option maxRecDepth 100000 in
theorem lifted (os : Os) (started : os.Started) (H : Type) (enc : TypeId × Value → H) :
    ReturnsInHanded {} Try.checked os 3 .any (Rows.fnExactFirstDeskSpec.pre6 enc Try.prog Try.f3 Rows.fnExactFirstDeskRow.domain false) (Rows.fnExactFirstDeskSpec.post enc Try.prog Try.f3 false true false false) := by
  refine returnsInHanded_of_change_sized (C := Try.checked) own started (by kernel_rfl) Try.func3
    (ChangeSpec.witness6 (enc := enc) (C := Try.checked) false ⟨#[], #[], []⟩ 8 (by kernel_rfl) (by kernel_rfl) (by kernel_rfl) (by kernel_rfl)) ?_
  intro W base args ds gs before hval0 hW hcnd hsz0 _
  have hsz : (DataW.weightsEach Try.prog (Try.f3.params.toList ++ Rows.fnExactFirstDeskSpec.plain.varTypes Try.prog) (ds ++ gs)).all (· ≤ reachBytes) = true := hsz0
  have hval : ∀ (j : Nat) t v, Try.f3.params[j]? = some t → args[j]? = some v → Value.okWide Try.prog W .any base t v := hval0
  have hW' := hW
  obtain ⟨p, q, hA0, hV, rfl, hfz, hnd⟩ := hW
  have hA : DataW.TrodAll enc Try.prog W 0 (fun _ => true) true Try.f3.params.toList args.toList ds p := hA0
  rw [Try.params3] at hA hval hsz
  obtain ⟨rfl, rfl, rfl⟩ := trodAll_none hA
  obtain ⟨rfl, rfl⟩ := trodVars_none hV
  clear hA0 hval0 hsz0 hsz
  obtain ⟨k, h⟩ := Pure.FnExactFirstDesk  
  refine (laws_FnExactFirstDesk.calls k  true W  h).mono fun e W' hh => ?_
  obtain ⟨he, bel0⟩ := hh
  have bel : Below W.heap.size W W' := bel0
  subst he
  exact ⟨_, rfl, _, _, _, [], _, [], hW', trodAll_mk1 (shut_bool Try.underlying4 _), trodAll_mk0, rfl, bel.frame _, fun h => by cases h⟩
theorem lfr : (Rows.fnExactFirstDeskRow.lifted == Try.prog.liftsFinal) = true := by
  rw [Hs.lf]
  kernel_rfl
theorem mkr : (Try.prog.make == some Rows.fnExactFirstDeskRow.make) = true := by
  rw [Hs.mk]
  kernel_rfl
theorem closed : joinedFacts Try.prog 3 Try.f3 Rows.fnExactFirstDeskSpec Rows.fnExactFirstDeskRow = true := by
  unfold joinedFacts
  repeat' (with_reducible refine Bool.and_eq_true_iff.2 ⟨?_, ?_⟩)
  all_goals first | (with_reducible exact Hs.me) | (with_reducible exact lfr) | (with_reducible exact mkr) | as_aux_lemma => kernel_rfl
theorem over : Rows.fnExactFirstDeskRow.holds Try.pinned (OpenSpec.ofChange Rows.fnExactFirstDeskSpec) :=
  OpenClaim.holds_of_wide 3 Try.f3 rfl rfl rfl rfl rfl rfl rfl ⟨rfl, rfl, rfl, rfl, rfl⟩ rfl rfl rfl rfl rfl (by kernel_rfl) Try.func3 closed
    (of_decide_eq_true (by kernel_rfl)) (by unfold Func.isWrapper; first | (rw [if_pos (by decide +kernel)]; kernel_rfl) | (rw [if_neg (by decide +kernel)]; exact ⟨rfl, rfl⟩))
    (fun os started H enc _ => lifted os started H enc)
theorem proved : Rows.FnExactFirstDeskSaid := over
end Go.Proofs.Ytgolncpnephdcaa.fnExactFirstDesk
namespace Go.Proofs.Ytgolncpnephdcaa
/-- The statement, under a short name, for the claim. -/
theorem fnExactFirstDesk_holds : Rows.FnExactFirstDeskSaid := fnExactFirstDesk.proved
#print axioms fnExactFirstDesk_holds
end Go.Proofs.Ytgolncpnephdcaa
