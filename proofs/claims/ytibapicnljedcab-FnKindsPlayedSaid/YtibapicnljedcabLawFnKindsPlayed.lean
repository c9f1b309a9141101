/- The law FnKindsPlayed: whatever the input, the call returns true, and the input reads behind it as it did. No condition. -/
import Derived.Test.YtibapicnljedcabRows
import Derived.Test.YtibapicnljedcabPureFnKindsPlayed
import Derived.Test.YtibapicnljedcabHr
import Derived.Test.YtibapicnljedcabHs
import Derived.Test.YtibapicnljedcabWSized
import Derived.WalkKit
import Derived.ProofKit
import Derived.OpenShut
import Derived.ShutString
import Derived.ChangeOld
import Derived.Below
import Derived.SizedLaws
import Derived.Deep.Slices
import Derived.Deep.Strs
import Derived.Lib.SmallJoins
namespace Go.Proofs.Ytibapicnljedcab.fnKindsPlayed
open Go.ChangeShapes Go.WideShapes Go.ChangeAt Go.RowKit Go.Proofs.Ytibapicnljedcab.Q Go.Proofs.YtibapicnljedcabW.PrintWords
open Go.ChangeMaps (open_string shut_string)
set_option linter.unusedVariables false
set_option linter.unusedSimpArgs false
theorem own : ownKnob Try.prog.godebug = none := by kernel_rfl
theorem laidOut : laidOutB Try.prog = true := by kernel_rfl
set_option maxRecDepth 100000 in
theorem lifted (os : Os) (started : os.Started) (H : Type) (enc : TypeId × Value → H) :
    ReturnsInHanded {} Try.checked os 3 .any (Rows.fnKindsPlayedSpec.pre6 enc Try.prog Try.f3 Rows.fnKindsPlayedRow.domain false) (Rows.fnKindsPlayedSpec.post enc Try.prog Try.f3 false true false false) := by
  refine returnsInHanded_of_change_sized (C := Try.checked) own started (by kernel_rfl) Try.func3
    (ChangeSpec.witness6 (enc := enc) (C := Try.checked) false ⟨#[], #[.slice none 0 0, .slice none 0 0], []⟩ 8 (by kernel_rfl) (by kernel_rfl) (by kernel_rfl) (by kernel_rfl)) ?_
  intro W base args ds gs before hval0 hW hcnd hsz0 _
  have hsz : (DataW.weightsEach Try.prog (Try.f3.params.toList ++ Rows.fnKindsPlayedSpec.plain.varTypes Try.prog) (ds ++ gs)).all (· ≤ reachBytes) = true := hsz0
  have hval : ∀ (j : Nat) t v, Try.f3.params[j]? = some t → args[j]? = some v → Value.okWide Try.prog W .any base t v := hval0
  have hW' := hW
  obtain ⟨p, q, hA0, hV, rfl, hfz, hnd⟩ := hW
  have hA : DataW.TrodAll enc Try.prog W 0 (fun _ => true) true Try.f3.params.toList args.toList ds p := hA0
  rw [Try.params3] at hA hval hsz
  obtain ⟨v0, vs0, d0, ds0, p0, q0, hargs, rfl, rfl, h0, r0⟩ := trodAll_cons hA
  obtain ⟨v1, vs1, d1, ds1, p1, q1, rfl, rfl, rfl, h1, r1⟩ := trodAll_cons r0
  obtain ⟨rfl, rfl, rfl⟩ := trodAll_nil r1
  obtain rfl : args = #[v0, v1] := by cases args; simp_all
  obtain ⟨rfl, rfl⟩ := trodVars_none hV
  have k0 := h0
  have lt0 : ∀ x ∈ p0, x.block < W.heap.size := by obtain ⟨m, hm⟩ := k0; exact DataW.trod_lt m _ _ _ hm
  obtain ⟨a0_, len_, cap_, rfl⟩ := okWide_slice Try.underlying22 (hval 0 22 v0 rfl rfl)
  have hz0 := sized_ints hsz (j := 0) (t := 22) rfl rfl Try.underlying22 Try.underlying5 (by kernel_rfl) (B := 1) (by kernel_rfl) h0
  have k0_ := k0
  obtain ⟨fu0, hf0⟩ := k0_
  simp only [Value.cells] at hf0
  replace hf0 : DataW.trod enc Try.prog W 0 (fun _ => true) true fu0 22 [.slice a0_ len_ cap_] = some _ := hf0
  have he0 : ∀ n_ cs_ y_, DataW.trod enc Try.prog W 0 (fun _ => true) true n_ 5 cs_ = some y_ → ∃ p_ : Int, cs_.length = 1 ∧ (Kd.int .u8).K W p_ cs_ ∧ (Lit.int .u8 p_).wf = true := by
    intro n_ cs_ y_ hh_
    obtain ⟨x_, h1_, _, h2_⟩ := DataW.trod_int Try.underlying5 hh_
    subst h1_
    exact ⟨x_, rfl, by first | rfl | exact ⟨rfl, rfl⟩ | simp [Kd.int, Kd.scalar], h2_⟩
  obtain ⟨A0, c0, l0, hv0_, hc0, hm0, hr0, hg0⟩ := Hr.open_rows (0 : Int) ((Kd.int .u8).K W) (fun p_ : Int => (Lit.int .u8 p_).wf = true) Try.underlying22 (by kernel_rfl) he0 hf0
  obtain ⟨rfl, rfl, rfl⟩ : a0_ = A0 ∧ len_ = l0.length ∧ cap_ = c0 := by injection hv0_ with q1_ q2_ q3_; exact ⟨q1_, q2_, q3_⟩
  have k1 := h1
  have lt1 : ∀ x ∈ p1, x.block < W.heap.size := by obtain ⟨m, hm⟩ := k1; exact DataW.trod_lt m _ _ _ hm
  obtain ⟨a0_, len_, cap_, rfl⟩ := okWide_slice Try.underlying22 (hval 1 22 v1 rfl rfl)
  have hz1 := sized_ints hsz (j := 1) (t := 22) rfl rfl Try.underlying22 Try.underlying5 (by kernel_rfl) (B := 1) (by kernel_rfl) h1
  have k1_ := k1
  obtain ⟨fu1, hf1⟩ := k1_
  simp only [Value.cells] at hf1
  replace hf1 : DataW.trod enc Try.prog W 0 (fun _ => true) true fu1 22 [.slice a0_ len_ cap_] = some _ := hf1
  have he1 : ∀ n_ cs_ y_, DataW.trod enc Try.prog W 0 (fun _ => true) true n_ 5 cs_ = some y_ → ∃ p_ : Int, cs_.length = 1 ∧ (Kd.int .u8).K W p_ cs_ ∧ (Lit.int .u8 p_).wf = true := by
    intro n_ cs_ y_ hh_
    obtain ⟨x_, h1_, _, h2_⟩ := DataW.trod_int Try.underlying5 hh_
    subst h1_
    exact ⟨x_, rfl, by first | rfl | exact ⟨rfl, rfl⟩ | simp [Kd.int, Kd.scalar], h2_⟩
  obtain ⟨A1, c1, l1, hv1_, hc1, hm1, hr1, hg1⟩ := Hr.open_rows (0 : Int) ((Kd.int .u8).K W) (fun p_ : Int => (Lit.int .u8 p_).wf = true) Try.underlying22 (by kernel_rfl) he1 hf1
  obtain ⟨rfl, rfl, rfl⟩ : a0_ = A1 ∧ len_ = l1.length ∧ cap_ = c1 := by injection hv1_ with q1_ q2_ q3_; exact ⟨q1_, q2_, q3_⟩
  clear hA0 hval0 hsz0 hsz
  refine (Pure.walk_FnKindsPlayed _ _ l0 _ _ l1 W hr0 hc0 hr1 hc1 hz0 hg0 hz1 hg1).mono fun e W' hh => ?_
  obtain ⟨he, bel⟩ := hh
  subst he
  exact ⟨_, rfl, _, _, _, [], _, [], hW', trodAll_mk1 (shut_bool Try.underlying4 _), (trodAll_cons_mk (Below.trod laidOut (by kernel_rfl) (of_decide_eq_true (by kernel_rfl)) k0 bel lt0) (trodAll_cons_mk (Below.trod laidOut (by kernel_rfl) (of_decide_eq_true (by kernel_rfl)) k1 bel lt1) trodAll_mk0)), rfl, bel.frame _, fun h => by cases h⟩
theorem lfr : (Rows.fnKindsPlayedRow.lifted == Try.prog.liftsFinal) = true := by
  rw [Hs.lf]
  kernel_rfl
theorem mkr : (Try.prog.make == some Rows.fnKindsPlayedRow.make) = true := by
  rw [Hs.mk]
  kernel_rfl
theorem closed : joinedFacts Try.prog 3 Try.f3 Rows.fnKindsPlayedSpec Rows.fnKindsPlayedRow = true := by
  unfold joinedFacts
  repeat' (with_reducible refine Bool.and_eq_true_iff.2 ⟨?_, ?_⟩)
  all_goals first | (with_reducible exact Hs.me) | (with_reducible exact lfr) | (with_reducible exact mkr) | as_aux_lemma => kernel_rfl
theorem over : Rows.fnKindsPlayedRow.holds Try.pinned (OpenSpec.ofChange Rows.fnKindsPlayedSpec) :=
  OpenClaim.holds_of_wide 3 Try.f3 rfl rfl rfl rfl rfl rfl rfl ⟨rfl, rfl, rfl, rfl, rfl⟩ rfl rfl rfl rfl rfl (by kernel_rfl) Try.func3 closed
    (of_decide_eq_true (by kernel_rfl)) (by unfold Func.isWrapper; first | (rw [if_pos (by decide +kernel)]; kernel_rfl) | (rw [if_neg (by decide +kernel)]; exact ⟨rfl, rfl⟩))
    (fun os started H enc _ => lifted os started H enc)
theorem proved : Rows.FnKindsPlayedSaid := over
end Go.Proofs.Ytibapicnljedcab.fnKindsPlayed
namespace Go.Proofs.Ytibapicnljedcab
/-- The statement, under a short name, for the claim. -/
theorem fnKindsPlayed_holds : Rows.FnKindsPlayedSaid := fnKindsPlayed.proved
#print axioms fnKindsPlayed_holds
end Go.Proofs.Ytibapicnljedcab
