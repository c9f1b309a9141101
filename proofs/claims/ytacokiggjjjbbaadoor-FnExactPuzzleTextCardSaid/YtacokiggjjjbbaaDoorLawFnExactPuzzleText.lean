/- The law FnExactPuzzleText: whatever the input, the call returns true, and the input reads behind it as it did. No condition. -/
import Derived.Test.YtacokiggjjjbbaaDoorRows
import Derived.Test.YtacokiggjjjbbaaDoorPureFnExactPuzzleText
import Derived.Test.YtacokiggjjjbbaaDoorHr
import Derived.Test.YtacokiggjjjbbaaDoorHs
import Derived.Test.YtacokiggjjjbbaaDoorWSized
import Derived.WalkKit
import Derived.ProofKit
import Derived.OpenShut
import Derived.ShutString
import Derived.ChangeOld
import Derived.Below
import Derived.SizedLaws
import Derived.Deep.Slices
import Derived.Deep.Strs
import Derived.Lib.SmallJoins
import Derived.LaidMore
import Derived.Stop.Joined
import Derived.SevenTiedAt
import Derived.Test.YtacokiggjjjbbaaDoorTie
import Derived.Test.YtacokiggjjjbbaaDoorCards
namespace Go.Proofs.YtacokiggjjjbbaaDoor.fnExactPuzzleText
open Go.ChangeShapes Go.WideShapes Go.ChangeAt Go.WideMaps Go.WideElems Go.RowKit Go.Proofs.YtacokiggjjjbbaaDoor.T Go.Proofs.YtacokiggjjjbbaaDoorW.PrintWords
open Go.ChangeMaps (open_string shut_string)
set_option linter.unusedVariables false
set_option linter.unusedSimpArgs false
theorem own : ownKnob Tryd.prog.godebug = none := by kernel_rfl
theorem laidOut : laidOutB Tryd.prog = true := by kernel_rfl
theorem door_met (os : Os) (args : Array Value) : laidMetH Tryd.prog Rows.fnExactPuzzleTextRow.laid ((World.doorLaid Tryd.prog 24 os).forCall (fun _ _ => 0) ⟨#[], args, []⟩).memory :=
  laidMetH_of_parts3 (fuel := 8) (laidMet_of_run' 8 (by kernel_rfl) (by kernel_rfl)) (by kernel_rfl) (by kernel_rfl)
set_option maxRecDepth 100000 in
theorem lifted (os : Os) (started : os.Started) (H : Type) (enc : TypeId × Value → H) :
    ReturnsInHanded {} Tryd.checked os 3 .any (fun w args => (Rows.fnExactPuzzleTextSpec.pre enc Tryd.prog Tryd.f3 [] false w args ∧ laidMetH Tryd.prog Rows.fnExactPuzzleTextRow.laid w) ∧ sizedMet enc Tryd.prog Tryd.f3 (OpenSpec.ofChange Rows.fnExactPuzzleTextSpec) false w args) (Rows.fnExactPuzzleTextSpec.post enc Tryd.prog Tryd.f3 false true false false) := by
  refine returnsInHanded_of_change_and (C := Tryd.checked) (X := fun w _ => laidMetH Tryd.prog Rows.fnExactPuzzleTextRow.laid w) (fun _ _ _ hh h => h.of_heap hh) own started (by kernel_rfl) Tryd.func3
    (ChangeSpec.witness_shaped (enc := enc) (C := Tryd.checked) (os := os) (X := fun w _ => laidMetH Tryd.prog Rows.fnExactPuzzleTextRow.laid w) false (World.doorLaid Tryd.prog 24 os) #[.agg #[.int .i64 0, .slice none 0 0]] 8 rfl (World.shaped_of_RefB (by kernel_rfl) (by kernel_rfl)) (by kernel_rfl) (by kernel_rfl) (by kernel_rfl) (door_met os _)) ?_
  intro W base args ds gs before hval0 hW hcnd hsz0 hL_ _
  have hsz : (DataW.weightsEach Tryd.prog (Tryd.f3.params.toList ++ Rows.fnExactPuzzleTextSpec.plain.varTypes Tryd.prog) (ds ++ gs)).all (· ≤ reachBytes) = true := hsz0
  have hval : ∀ (j : Nat) t v, Tryd.f3.params[j]? = some t → args[j]? = some v → Value.okWide Tryd.prog W .any base t v := hval0
  have hW' := hW
  obtain ⟨p, q, hA0, hV, rfl, hfz, hnd⟩ := hW
  have hA : DataW.TrodAll enc Tryd.prog W 0 (fun _ => true) true Tryd.f3.params.toList args.toList ds p := hA0
  rw [Tryd.params3] at hA hval hsz
  obtain ⟨v0, vs0, d0, ds0, p0, q0, hargs, rfl, rfl, h0, r0⟩ := trodAll_cons hA
  obtain ⟨rfl, rfl, rfl⟩ := trodAll_nil r0
  obtain rfl : args = #[v0] := by cases args; simp_all
  obtain ⟨rfl, rfl⟩ := trodVars_none hV
  have k0 := h0
  have lt0 : ∀ x ∈ p0, x.block < W.heap.size := by obtain ⟨m, hm⟩ := k0; exact DataW.trod_lt m _ _ _ hm
  obtain ⟨v0_0, v0_1, y0_0, y0_1, m0_, rfl, _, _, t0_0, t0_1⟩ := Joins.open_agg2 Tryd.underlying24 (by kernel_rfl) (by kernel_rfl) (hval 0 24 v0 rfl rfl) h0
  obtain ⟨a0_0, rfl, w0_0⟩ := Hr.fint Tryd.underlying3 t0_0
  have he0_1 : ∀ n_ cs_ y_, DataW.trod enc Tryd.prog W 0 (fun _ => true) true n_ 46 cs_ = some y_ → ∃ p_ : S46, cs_.length = 3 ∧ k46.K W p_ cs_ ∧ ((Lit.int .i64 p_.f0).wf = true ∧ (Lit.int .i64 p_.f1).wf = true ∧ (Lit.int .i64 p_.f2).wf = true) := by
    intro n_ cs_ y_ hh_
    obtain ⟨c0_, c1_, c2_, y0_, y1_, y2_, m_, rfl, q0_, q1_, q2_⟩ := Hr.elem3 Tryd.underlying46 (by kernel_rfl) (by kernel_rfl) hh_
    obtain ⟨x0_, rfl, w0_⟩ := Hr.fint Tryd.underlying3 q0_
    obtain ⟨x1_, rfl, w1_⟩ := Hr.fint Tryd.underlying3 q1_
    obtain ⟨x2_, rfl, w2_⟩ := Hr.fint Tryd.underlying3 q2_
    exact ⟨⟨x0_, x1_, x2_⟩, rfl, k46_mk _ ⟨x0_, x1_, x2_⟩, ⟨w0_, w1_, w2_⟩⟩
  obtain ⟨A0_1, c0_1, l0_1, rfl, hc0_1, hm0_1, hr0_1, hg0_1⟩ := Hr.open_rows z46 (k46.K W) (fun p_ : S46 => (Lit.int .i64 p_.f0).wf = true ∧ (Lit.int .i64 p_.f1).wf = true ∧ (Lit.int .i64 p_.f2).wf = true) Tryd.underlying22 (by kernel_rfl) he0_1 t0_1
  clear hA0 hval0 hsz0 hsz
  refine (Pure.walk_FnExactPuzzleText a0_0 _ _ l0_1 W hr0_1 hc0_1).mono fun e W' hh => ?_
  obtain ⟨he, bel⟩ := hh
  subst he
  exact ⟨_, rfl, _, _, _, [], _, [], hW', trodAll_mk1 (shut_bool Tryd.underlying4 _), (trodAll_cons_mk (Below.trod laidOut (by kernel_rfl) (of_decide_eq_true (by kernel_rfl)) k0 bel lt0) trodAll_mk0), rfl, bel.frame _, fun h => by cases h⟩
theorem lfr : (Rows.fnExactPuzzleTextRow.lifted == Tryd.prog.liftsFinal) = true := by
  rw [Hs.lf]
  kernel_rfl
theorem mkr : (Tryd.prog.make == some Rows.fnExactPuzzleTextRow.make) = true := by
  rw [Hs.mk]
  kernel_rfl
theorem closed : joinedFacts Tryd.prog 3 Tryd.f3 Rows.fnExactPuzzleTextSpec Rows.fnExactPuzzleTextRow = true := by
  unfold joinedFacts
  repeat' (with_reducible refine Bool.and_eq_true_iff.2 ⟨?_, ?_⟩)
  all_goals first | (with_reducible exact Hs.me) | (with_reducible exact lfr) | (with_reducible exact mkr) | as_aux_lemma => kernel_rfl
theorem over : Rows.fnExactPuzzleTextRow.holds Tryd.pinned (OpenSpec.ofChange Rows.fnExactPuzzleTextSpec) :=
  OpenClaim.holds_of_wide 3 Tryd.f3 rfl rfl rfl rfl rfl rfl rfl ⟨rfl, rfl, rfl, rfl, rfl⟩ rfl rfl rfl rfl rfl (by kernel_rfl) Tryd.func3 closed
    (of_decide_eq_true (by kernel_rfl)) (by unfold Func.isWrapper; first | (rw [if_pos (by decide +kernel)]; kernel_rfl) | (rw [if_neg (by decide +kernel)]; exact ⟨rfl, rfl⟩))
    (fun os started H enc _ => lifted os started H enc)
theorem proved : Rows.FnExactPuzzleTextCardSaid :=
  Claim7.holds_tied_plain_at .later [] Rows.fnExactPuzzleTextCard.laidKinds true Rows.fnExactPuzzleTextCard.stood.harness false
    over (fun _ h => by cases h) (by kernel_rfl) (fun _ h => by cases h) fnExactPuzzleText_row_tie rfl ⟨rfl, rfl⟩ (by kernel_rfl) rfl
    (fun f fn hf hfn => by
      obtain rfl : f = 3 := Option.some.inj ((show Tryd.prog.funcNamed Rows.fnExactPuzzleTextRow.func = some 3 by kernel_rfl).symm.trans hf) |>.symm
      obtain rfl : fn = Tryd.f3 := (Option.some.inj (Tryd.func3.symm.trans hfn)).symm
      exact ⟨by kernel_rfl, fun j t ht => by
        rw [Tryd.params3] at ht
        have hm : t ∈ [24] := by simpa using Array.mem_of_getElem? ht
        have hall : ([24].all fun u => !Tryd.prog.wantsStandIn u) = true := by kernel_rfl
        exact (show Tryd.prog.wantsStandIn t = false by simpa using List.all_eq_true.1 hall t hm)⟩)
    (by kernel_rfl)
end Go.Proofs.YtacokiggjjjbbaaDoor.fnExactPuzzleText
namespace Go.Proofs.YtacokiggjjjbbaaDoor
/-- The statement, under a short name, for the claim. -/
theorem fnExactPuzzleText_holds : Rows.FnExactPuzzleTextCardSaid := fnExactPuzzleText.proved
#print axioms fnExactPuzzleText_holds
end Go.Proofs.YtacokiggjjjbbaaDoor
