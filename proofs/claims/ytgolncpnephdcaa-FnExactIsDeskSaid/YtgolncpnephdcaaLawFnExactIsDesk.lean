/- The law FnExactIsDesk: whatever the input, the call returns true, and the input reads behind it as it did. No condition. -/
import Derived.Test.YtgolncpnephdcaaRows
import Derived.Test.YtgolncpnephdcaaPureFnExactIsDesk
import Derived.Test.YtgolncpnephdcaaHr
import Derived.Test.YtgolncpnephdcaaHs
import Derived.Test.YtgolncpnephdcaaWSized
import Derived.WalkKit
import Derived.ProofKit
import Derived.OpenShut
import Derived.ShutString
import Derived.ChangeOld
import Derived.Below
import Derived.SizedLaws
import Derived.Deep.Slices
import Derived.Deep.Strs
import Derived.Lib.SmallJoins
namespace Go.Proofs.Ytgolncpnephdcaa.fnExactIsDesk
open Go.ChangeShapes Go.WideShapes Go.ChangeAt Go.RowKit Go.Proofs.Ytgolncpnephdcaa.D Go.Proofs.YtgolncpnephdcaaW.PrintWords
open Go.ChangeMaps (open_string shut_string)
set_option linter.unusedVariables false
set_option linter.unusedSimpArgs false
theorem own : ownKnob Try.prog.godebug = none := by kernel_rfl
theorem laidOut : laidOutB Try.prog = true := by kernel_rfl
set_option maxRecDepth 100000 in
theorem lifted (os : Os) (started : os.Started) (H : Type) (enc : TypeId × Value → H) :
    ReturnsInHanded {} Try.checked os 6 .any (Rows.fnExactIsDeskSpec.pre6 enc Try.prog Try.f6 Rows.fnExactIsDeskRow.domain false) (Rows.fnExactIsDeskSpec.post enc Try.prog Try.f6 false true false false) := by
  refine returnsInHanded_of_change_sized (C := Try.checked) own started (by kernel_rfl) Try.func6
    (ChangeSpec.witness6 (enc := enc) (C := Try.checked) false ⟨#[], #[.agg #[.int .i64 0, .int .i64 0, .int .i64 0, .slice none 0 0]], []⟩ 8 (by kernel_rfl) (by kernel_rfl) (by kernel_rfl) (by kernel_rfl)) ?_
  intro W base args ds gs before hval0 hW hcnd hsz0 _
  have hsz : (DataW.weightsEach Try.prog (Try.f6.params.toList ++ Rows.fnExactIsDeskSpec.plain.varTypes Try.prog) (ds ++ gs)).all (· ≤ reachBytes) = true := hsz0
  have hval : ∀ (j : Nat) t v, Try.f6.params[j]? = some t → args[j]? = some v → Value.okWide Try.prog W .any base t v := hval0
  have hW' := hW
  obtain ⟨p, q, hA0, hV, rfl, hfz, hnd⟩ := hW
  have hA : DataW.TrodAll enc Try.prog W 0 (fun _ => true) true Try.f6.params.toList args.toList ds p := hA0
  rw [Try.params6] at hA hval hsz
  obtain ⟨v0, vs0, d0, ds0, p0, q0, hargs, rfl, rfl, h0, r0⟩ := trodAll_cons hA
  obtain ⟨rfl, rfl, rfl⟩ := trodAll_nil r0
  obtain rfl : args = #[v0] := by cases args; simp_all
  obtain ⟨rfl, rfl⟩ := trodVars_none hV
  have k0 := h0
  have lt0 : ∀ x ∈ p0, x.block < W.heap.size := by obtain ⟨m, hm⟩ := k0; exact DataW.trod_lt m _ _ _ hm
  obtain ⟨v0_0, v0_1, v0_2, v0_3, y0_0, y0_1, y0_2, y0_3, m0_, rfl, _, _, t0_0, t0_1, t0_2, t0_3⟩ := Joins.open_agg4 Try.underlying42 (by kernel_rfl) (by kernel_rfl) (hval 0 42 v0 rfl rfl) h0
  obtain ⟨a0_0, rfl, w0_0⟩ := Hr.fint Try.underlying3 t0_0
  obtain ⟨a0_1, rfl, w0_1⟩ := Hr.fint Try.underlying3 t0_1
  obtain ⟨a0_2, rfl, w0_2⟩ := Hr.fint Try.underlying3 t0_2
  have he0_3 : ∀ n_ cs_ y_, DataW.trod enc Try.prog W 0 (fun _ => true) true n_ 86 cs_ = some y_ → ∃ p_ : S86, cs_.length = 2 ∧ k86.K W p_ cs_ ∧ ((Lit.int .i64 p_.f0).wf = true) := by
    intro n_ cs_ y_ hh_
    obtain ⟨c0_, c1_, y0_, y1_, m_, rfl, q0_, q1_⟩ := Hr.elem2 Try.underlying86 (by kernel_rfl) (by kernel_rfl) hh_
    obtain ⟨x0_, rfl, w0_⟩ := Hr.fint Try.underlying3 q0_
    obtain ⟨x1_, rfl⟩ := Hr.fbool Try.underlying4 q1_
    exact ⟨⟨x0_, x1_⟩, rfl, k86_mk _ ⟨x0_, x1_⟩, w0_⟩
  obtain ⟨A0_3, c0_3, l0_3, rfl, hc0_3, hm0_3, hr0_3, hg0_3⟩ := Hr.open_rows z86 (k86.K W) (fun p_ : S86 => (Lit.int .i64 p_.f0).wf = true) Try.underlying40 (by kernel_rfl) he0_3 t0_3
  clear hA0 hval0 hsz0 hsz
  refine (Pure.walk_FnExactIsDesk a0_0 a0_1 a0_2 _ _ l0_3 W hr0_3 hc0_3).mono fun e W' hh => ?_
  obtain ⟨he, bel⟩ := hh
  subst he
  exact ⟨_, rfl, _, _, _, [], _, [], hW', trodAll_mk1 (shut_bool Try.underlying4 _), (trodAll_cons_mk (Below.trod laidOut (by kernel_rfl) (of_decide_eq_true (by kernel_rfl)) k0 bel lt0) trodAll_mk0), rfl, bel.frame _, fun h => by cases h⟩
theorem lfr : (Rows.fnExactIsDeskRow.lifted == Try.prog.liftsFinal) = true := by
  rw [Hs.lf]
  kernel_rfl
theorem mkr : (Try.prog.make == some Rows.fnExactIsDeskRow.make) = true := by
  rw [Hs.mk]
  kernel_rfl
theorem closed : joinedFacts Try.prog 6 Try.f6 Rows.fnExactIsDeskSpec Rows.fnExactIsDeskRow = true := by
  unfold joinedFacts
  repeat' (with_reducible refine Bool.and_eq_true_iff.2 ⟨?_, ?_⟩)
  all_goals first | (with_reducible exact Hs.me) | (with_reducible exact lfr) | (with_reducible exact mkr) | as_aux_lemma => kernel_rfl
theorem over : Rows.fnExactIsDeskRow.holds Try.pinned (OpenSpec.ofChange Rows.fnExactIsDeskSpec) :=
  OpenClaim.holds_of_wide 6 Try.f6 rfl rfl rfl rfl rfl rfl rfl ⟨rfl, rfl, rfl, rfl, rfl⟩ rfl rfl rfl rfl rfl (by kernel_rfl) Try.func6 closed
    (of_decide_eq_true (by kernel_rfl)) (by unfold Func.isWrapper; first | (rw [if_pos (by decide +kernel)]; kernel_rfl) | (rw [if_neg (by decide +kernel)]; exact ⟨rfl, rfl⟩))
    (fun os started H enc _ => lifted os started H enc)
theorem proved : Rows.FnExactIsDeskSaid := over
end Go.Proofs.Ytgolncpnephdcaa.fnExactIsDesk
namespace Go.Proofs.Ytgolncpnephdcaa
/-- The statement, under a short name, for the claim. -/
theorem fnExactIsDesk_holds : Rows.FnExactIsDeskSaid := fnExactIsDesk.proved
#print axioms fnExactIsDesk_holds
end Go.Proofs.Ytgolncpnephdcaa
