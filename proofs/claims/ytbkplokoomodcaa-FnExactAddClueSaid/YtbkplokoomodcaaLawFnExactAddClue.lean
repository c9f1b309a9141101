/- The law FnExactAddClue: whatever the input, the call returns true, and the input reads behind it as it did. No condition. -/
import Derived.Test.YtbkplokoomodcaaRows
import Derived.Test.YtbkplokoomodcaaPureFnExactAddClue
import Derived.Test.YtbkplokoomodcaaHr
import Derived.Test.YtbkplokoomodcaaHs
import Derived.Test.YtbkplokoomodcaaWSized
import Derived.WalkKit
import Derived.ProofKit
import Derived.OpenShut
import Derived.ShutString
import Derived.ChangeOld
import Derived.Below
import Derived.SizedLaws
import Derived.Deep.Slices
import Derived.Deep.Strs
import Derived.Lib.SmallJoins
namespace Go.Proofs.Ytbkplokoomodcaa.fnExactAddClue
open Go.ChangeShapes Go.WideShapes Go.ChangeAt Go.RowKit Go.Proofs.Ytbkplokoomodcaa.A2 Go.Proofs.YtbkplokoomodcaaW.PrintWords
open Go.ChangeMaps (open_string shut_string)
set_option linter.unusedVariables false
set_option linter.unusedSimpArgs false
theorem own : ownKnob Try.prog.godebug = none := by kernel_rfl
theorem laidOut : laidOutB Try.prog = true := by kernel_rfl
set_option maxRecDepth 100000 in
theorem lifted (os : Os) (started : os.Started) (H : Type) (enc : TypeId × Value → H) :
    ReturnsInHanded {} Try.checked os 6 .any (Rows.fnExactAddClueSpec.pre6 enc Try.prog Try.f6 Rows.fnExactAddClueRow.domain false) (Rows.fnExactAddClueSpec.post enc Try.prog Try.f6 false true false false) := by
  refine returnsInHanded_of_change_sized (C := Try.checked) own started (by kernel_rfl) Try.func6
    (ChangeSpec.witness6 (enc := enc) (C := Try.checked) false ⟨#[], #[.agg #[.int .i64 0, .slice none 0 0], .agg #[.int .i64 0, .int .i64 0, .int .i64 0]], []⟩ 8 (by kernel_rfl) (by kernel_rfl) (by kernel_rfl) (by kernel_rfl)) ?_
  intro W base args ds gs before hval0 hW hcnd hsz0 _
  have hsz : (DataW.weightsEach Try.prog (Try.f6.params.toList ++ Rows.fnExactAddClueSpec.plain.varTypes Try.prog) (ds ++ gs)).all (· ≤ reachBytes) = true := hsz0
  have hval : ∀ (j : Nat) t v, Try.f6.params[j]? = some t → args[j]? = some v → Value.okWide Try.prog W .any base t v := hval0
  have hW' := hW
  obtain ⟨p, q, hA0, hV, rfl, hfz, hnd⟩ := hW
  have hA : DataW.TrodAll enc Try.prog W 0 (fun _ => true) true Try.f6.params.toList args.toList ds p := hA0
  rw [Try.params6] at hA hval hsz
  obtain ⟨v0, vs0, d0, ds0, p0, q0, hargs, rfl, rfl, h0, r0⟩ := trodAll_cons hA
  obtain ⟨v1, vs1, d1, ds1, p1, q1, rfl, rfl, rfl, h1, r1⟩ := trodAll_cons r0
  obtain ⟨rfl, rfl, rfl⟩ := trodAll_nil r1
  obtain rfl : args = #[v0, v1] := by cases args; simp_all
  obtain ⟨rfl, rfl⟩ := trodVars_none hV
  have k0 := h0
  have lt0 : ∀ x ∈ p0, x.block < W.heap.size := by obtain ⟨m, hm⟩ := k0; exact DataW.trod_lt m _ _ _ hm
  obtain ⟨v0_0, v0_1, y0_0, y0_1, m0_, rfl, _, _, t0_0, t0_1⟩ := Joins.open_agg2 Try.underlying30 (by kernel_rfl) (by kernel_rfl) (hval 0 30 v0 rfl rfl) h0
  obtain ⟨a0_0, rfl, w0_0⟩ := Hr.fint Try.underlying3 t0_0
  have he0_1 : ∀ n_ cs_ y_, DataW.trod enc Try.prog W 0 (fun _ => true) true n_ 23 cs_ = some y_ → ∃ p_ : S23, cs_.length = 3 ∧ k23.K W p_ cs_ ∧ ((Lit.int .i64 p_.f0).wf = true ∧ (Lit.int .i64 p_.f1).wf = true ∧ (Lit.int .i64 p_.f2).wf = true) := by
    intro n_ cs_ y_ hh_
    obtain ⟨c0_, c1_, c2_, y0_, y1_, y2_, m_, rfl, q0_, q1_, q2_⟩ := Hr.elem3 Try.underlying23 (by kernel_rfl) (by kernel_rfl) hh_
    obtain ⟨x0_, rfl, w0_⟩ := Hr.fint Try.underlying3 q0_
    obtain ⟨x1_, rfl, w1_⟩ := Hr.fint Try.underlying3 q1_
    obtain ⟨x2_, rfl, w2_⟩ := Hr.fint Try.underlying3 q2_
    exact ⟨⟨x0_, x1_, x2_⟩, rfl, k23_mk _ ⟨x0_, x1_, x2_⟩, ⟨w0_, w1_, w2_⟩⟩
  obtain ⟨A0_1, c0_1, l0_1, rfl, hc0_1, hm0_1, hr0_1, hg0_1⟩ := Hr.open_rows z23 (k23.K W) (fun p_ : S23 => (Lit.int .i64 p_.f0).wf = true ∧ (Lit.int .i64 p_.f1).wf = true ∧ (Lit.int .i64 p_.f2).wf = true) Try.underlying28 (by kernel_rfl) he0_1 t0_1
  have k1 := h1
  have lt1 : ∀ x ∈ p1, x.block < W.heap.size := by obtain ⟨m, hm⟩ := k1; exact DataW.trod_lt m _ _ _ hm
  obtain ⟨v1_0, v1_1, v1_2, y1_0, y1_1, y1_2, m1_, rfl, _, _, t1_0, t1_1, t1_2⟩ := Joins.open_agg3 Try.underlying23 (by kernel_rfl) (by kernel_rfl) (hval 1 23 v1 rfl rfl) h1
  obtain ⟨a1_0, rfl, w1_0⟩ := Hr.fint Try.underlying3 t1_0
  obtain ⟨a1_1, rfl, w1_1⟩ := Hr.fint Try.underlying3 t1_1
  obtain ⟨a1_2, rfl, w1_2⟩ := Hr.fint Try.underlying3 t1_2
  clear hA0 hval0 hsz0 hsz
  refine (Pure.walk_FnExactAddClue a0_0 _ _ l0_1 a1_0 a1_1 a1_2 W hr0_1 hc0_1).mono fun e W' hh => ?_
  obtain ⟨he, bel⟩ := hh
  subst he
  exact ⟨_, rfl, _, _, _, [], _, [], hW', trodAll_mk1 (shut_bool Try.underlying4 _), (trodAll_cons_mk (Below.trod laidOut (by kernel_rfl) (of_decide_eq_true (by kernel_rfl)) k0 bel lt0) (trodAll_cons_mk (Below.trod laidOut (by kernel_rfl) (of_decide_eq_true (by kernel_rfl)) k1 bel lt1) trodAll_mk0)), rfl, bel.frame _, fun h => by cases h⟩
theorem lfr : (Rows.fnExactAddClueRow.lifted == Try.prog.liftsFinal) = true := by
  rw [Hs.lf]
  kernel_rfl
theorem mkr : (Try.prog.make == some Rows.fnExactAddClueRow.make) = true := by
  rw [Hs.mk]
  kernel_rfl
theorem closed : joinedFacts Try.prog 6 Try.f6 Rows.fnExactAddClueSpec Rows.fnExactAddClueRow = true := by
  unfold joinedFacts
  repeat' (with_reducible refine Bool.and_eq_true_iff.2 ⟨?_, ?_⟩)
  all_goals first | (with_reducible exact Hs.me) | (with_reducible exact lfr) | (with_reducible exact mkr) | as_aux_lemma => kernel_rfl
theorem over : Rows.fnExactAddClueRow.holds Try.pinned (OpenSpec.ofChange Rows.fnExactAddClueSpec) :=
  OpenClaim.holds_of_wide 6 Try.f6 rfl rfl rfl rfl rfl rfl rfl ⟨rfl, rfl, rfl, rfl, rfl⟩ rfl rfl rfl rfl rfl (by kernel_rfl) Try.func6 closed
    (of_decide_eq_true (by kernel_rfl)) (by unfold Func.isWrapper; first | (rw [if_pos (by decide +kernel)]; kernel_rfl) | (rw [if_neg (by decide +kernel)]; exact ⟨rfl, rfl⟩))
    (fun os started H enc _ => lifted os started H enc)
theorem proved : Rows.FnExactAddClueSaid := over
end Go.Proofs.Ytbkplokoomodcaa.fnExactAddClue
namespace Go.Proofs.Ytbkplokoomodcaa
/-- The statement, under a short name, for the claim. -/
theorem fnExactAddClue_holds : Rows.FnExactAddClueSaid := fnExactAddClue.proved
#print axioms fnExactAddClue_holds
end Go.Proofs.Ytbkplokoomodcaa
