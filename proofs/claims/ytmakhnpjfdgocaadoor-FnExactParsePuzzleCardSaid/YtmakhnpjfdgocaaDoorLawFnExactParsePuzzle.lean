/- The law FnExactParsePuzzle: whatever the input, the call returns true, and the input reads behind it as it did. No condition beside the variables that the card ties to the program's text. -/
import Derived.Test.YtmakhnpjfdgocaaDoorRows
import Derived.Test.YtmakhnpjfdgocaaDoorPureFnExactParsePuzzle
import Derived.Test.YtmakhnpjfdgocaaDoorPx8
import Derived.Test.YtmakhnpjfdgocaaDoorSh
import Derived.Test.YtmakhnpjfdgocaaDoorHs
import Derived.Test.YtmakhnpjfdgocaaDoorWSized
import Derived.Test.YtmakhnpjfdgocaaDoorTie
import Derived.Test.YtmakhnpjfdgocaaDoorCards
import Derived.WalkKit
import Derived.ProofKit
import Derived.OpenShut
import Derived.ShutString
import Derived.ChangeOld
import Derived.Below
import Derived.SizedLaws
import Derived.Deep.Slices
import Derived.Deep.Strs
import Derived.Lib.SmallJoins
import Derived.LaidMore
import Derived.Lay
import Derived.Stop.Joined
import Derived.Stop.LaidErr
import Derived.MakeChecks
import Derived.Lib.LaidTab
import Derived.Deep.DeepHandedRow
import Derived.SevenTiedAt
namespace Go.Proofs.YtmakhnpjfdgocaaDoor.fnExactParsePuzzle
open Go.ChangeShapes Go.WideShapes Go.ChangeAt Go.WideMaps Go.WideElems Go.RowKit Go.Proofs.YtmakhnpjfdgocaaDoor.P Go.Proofs.YtmakhnpjfdgocaaDoorW.PrintWords
open Go.ChangeMaps (open_string shut_string)
set_option linter.unusedVariables false
set_option linter.unusedSimpArgs false
theorem own : ownKnob Tryd.prog.godebug = none := by kernel_rfl
theorem laidOut : laidOutB Tryd.prog = true := by kernel_rfl
theorem star : "*" ++ "errors.errorString" = "*errors.errorString" := by decide
/-- The one type of that name. -/
theorem rowErr (u : TypeId) (h : Tryd.prog.typeName? 3 u = some "*errors.errorString") : u = 108 :=
  typeName_ptr_named (nm := "errors.errorString") (by rw [star]; kernel_rfl) (by kernel_rfl) (by decide) u (by rw [star]; exact h)
set_option maxRecDepth 100000 in
/-- What the walk asks of the world, out of what the row lists and the world's shape. -/
theorem pw_of {W : World} (hL0 : laidMetH Tryd.prog Rows.fnExactParsePuzzleRow.laid W) (hsh : W.ShapedOpen Tryd.prog) : PW W := by
  rw [MakeChecks.laidMetH_plain _ _ _ (by kernel_rfl)] at hL0
  have hL1 : laidMet Tryd.prog ((_, _) :: (_, _) :: (_, Lib.tabData .u64 Lib.pow10Tab) :: (_, _) :: (_, .iface _ (.ptr (.agg [.lit (.string _)]))) :: (_, .iface _ (.ptr (.agg [.lit (.string _)]))) :: _) W := hL0
  obtain ⟨a1, s1, hv1, -, -, -⟩ := laid_sentinel hL1.tail.tail.tail.tail (g := 2) (ti := 44) (tp := 108) (te := 110) (ts := 9) (by kernel_rfl) (by kernel_rfl) Tryd.underlying44 rowErr Tryd.underlying108 Tryd.underlying110 rfl rfl Tryd.underlying9 (by kernel_rfl) (by kernel_rfl)
  obtain ⟨a2, s2, hv2, -, -, -⟩ := laid_sentinel hL1.tail.tail.tail.tail.tail (g := 1) (ti := 44) (tp := 108) (te := 110) (ts := 9) (by kernel_rfl) (by kernel_rfl) Tryd.underlying44 rowErr Tryd.underlying108 Tryd.underlying110 rfl rfl Tryd.underlying9 (by kernel_rfl) (by kernel_rfl)
  exact ⟨Tryd.laysM146.s1_3 W hsh, Lib.tabIs_of_head (g := 3) (t := 115) (e := 89) (n := 20) (by kernel_rfl) (by kernel_rfl) (by kernel_rfl) (by kernel_rfl) (by kernel_rfl) (by kernel_rfl) hL1.tail.tail, ⟨_, _, hv2⟩, ⟨_, _, hv1⟩⟩
set_option maxRecDepth 100000 in
theorem lifted (os : Os) (started : os.Started) (H : Type) (enc : TypeId × Value → H) (F : Stop.Interp) :
    ReturnsInHanded {} Tryd.checked os 4 .any ((OpenSpec.ofChange Rows.fnExactParsePuzzleSpec).preRow enc Tryd.prog Tryd.f4 Rows.fnExactParsePuzzleRow.domain false Rows.fnExactParsePuzzleRow.laid) (((OpenSpec.ofChange Rows.fnExactParsePuzzleSpec).at F).post enc Tryd.prog Tryd.f4 false true false false) := by
  refine returnsInHanded_of_row (C := Tryd.checked) (s := OpenSpec.ofChange Rows.fnExactParsePuzzleSpec) own started (by kernel_rfl) Tryd.func4
    (ChangeSpec.witness_shaped (enc := enc) (C := Tryd.checked) (os := os) (X := fun w _ => laidMetH Tryd.prog Rows.fnExactParsePuzzleRow.laid w) false (World.laidAll Tryd.prog os Rows.fnExactParsePuzzleRow.laid) #[.string ByteArray.empty] 8 (World.laidAll_os _ _ _)
      (World.shaped_of_ZipB (by kernel_rfl) (by kernel_rfl)) (by kernel_rfl) (by kernel_rfl) (by kernel_rfl)
      (by rw [MakeChecks.laidMetH_plain _ _ _ (by kernel_rfl)]; exact laidMet_laidAll _ (by kernel_rfl) (by kernel_rfl))) ?_
  intro W base args ds gs before hval0 hW hcnd hcond hsz0 hL hsh _
  have hPW := pw_of hL hsh
  have hsz : (DataW.weightsEach Tryd.prog (Tryd.f4.params.toList ++ Rows.fnExactParsePuzzleSpec.plain.varTypes Tryd.prog) (ds ++ gs)).all (· ≤ reachBytes) = true := hsz0
  have hval : ∀ (j : Nat) t v, Tryd.f4.params[j]? = some t → args[j]? = some v → Value.okWide Tryd.prog W .any base t v := hval0
  have hW' := hW
  obtain ⟨p, q, hA0, hV, rfl, hfz, hnd⟩ := hW
  have hA : DataW.TrodAll enc Tryd.prog W 0 (fun _ => true) true Tryd.f4.params.toList args.toList ds p := hA0
  rw [Tryd.params4] at hA hval hsz
  obtain ⟨v0, vs0, d0, ds0, p0, q0, hargs, rfl, rfl, h0, r0⟩ := trodAll_cons hA
  obtain ⟨rfl, rfl, rfl⟩ := trodAll_nil r0
  obtain rfl : args = #[v0] := by cases args; simp_all
  obtain ⟨rfl, rfl⟩ := trodVars_none hV
  obtain ⟨a0, rfl, rfl, rfl, y0⟩ := open_string Tryd.underlying9 (hval 0 9 v0 rfl rfl) h0
  have w0 : a0.size ≤ 140737488351232 := by
    have z := sized_string hsz (j := 0) (t := 9) rfl rfl
    rw [Array.length_toList] at z
    exact z
  clear hA0 hval0 hsz0 hsz
  obtain ⟨k, h⟩ := Pure.FnExactParsePuzzle a0 w0
  refine (laws_FnExactParsePuzzle.calls k a0 true W hPW h).mono fun e W' ⟨he, bel⟩ => ?_
  subst he
  exact ⟨_, rfl, _, _, _, [], _, [], hW', trodAll_mk1 (shut_bool Tryd.underlying4 _), (trodAll_cons_mk (shut_string Tryd.underlying9 y0) trodAll_mk0), rfl, bel.frame _, fun h => by cases h⟩
theorem lfr : (Rows.fnExactParsePuzzleRow.lifted == Tryd.prog.liftsFinal) = true := by
  rw [Hs.lf]
  kernel_rfl
theorem mkr : (Tryd.prog.make == some Rows.fnExactParsePuzzleRow.make) = true := by
  rw [Hs.mk]
  kernel_rfl
theorem closed : joinedFacts Tryd.prog 4 Tryd.f4 Rows.fnExactParsePuzzleSpec Rows.fnExactParsePuzzleRow = true := by
  unfold joinedFacts
  repeat' (with_reducible refine Bool.and_eq_true_iff.2 ⟨?_, ?_⟩)
  all_goals first | (with_reducible exact Hs.me) | (with_reducible exact lfr) | (with_reducible exact mkr) | as_aux_lemma => kernel_rfl
set_option maxRecDepth 100000 in
theorem over : Rows.fnExactParsePuzzleRow.holds Tryd.pinned (OpenSpec.ofChange Rows.fnExactParsePuzzleSpec) :=
  OpenClaim.holds_of_cond 4 Tryd.f4 rfl rfl rfl rfl rfl rfl rfl ⟨rfl, rfl, rfl, rfl, rfl⟩ rfl rfl rfl rfl rfl (by kernel_rfl) Tryd.func4 closed
    (of_decide_eq_true (by kernel_rfl)) (by unfold Func.isWrapper; first | (rw [if_pos (by decide +kernel)]; kernel_rfl) | (rw [if_neg (by decide +kernel)]; exact ⟨rfl, rfl⟩))
    (fun os started H enc _ F0 => by rw [OpenClaim.pre_eq_preRow]; exact lifted os started H enc F0)
theorem proved : Rows.FnExactParsePuzzleCardSaid :=
  Claim7.holds_tied_plain_at .later [] Rows.fnExactParsePuzzleCard.laidKinds true Rows.fnExactParsePuzzleCard.stood.harness true
    over (fun _ h => by cases h) (by kernel_rfl) (fun _ h => by cases h) fnExactParsePuzzle_row_tie rfl ⟨rfl, rfl⟩ (by kernel_rfl) rfl
    (fun f fn hf hfn => by
      obtain rfl : f = 4 := Option.some.inj ((show Tryd.prog.funcNamed Rows.fnExactParsePuzzleRow.func = some 4 by kernel_rfl).symm.trans hf) |>.symm
      obtain rfl : fn = Tryd.f4 := (Option.some.inj (Tryd.func4.symm.trans hfn)).symm
      exact ⟨by kernel_rfl, fun j t ht => by
        rw [Tryd.params4] at ht
        have hm : t ∈ [9] := by simpa using Array.mem_of_getElem? ht
        have hall : ([9].all fun u => !Tryd.prog.wantsStandIn u) = true := by kernel_rfl
        exact (show Tryd.prog.wantsStandIn t = false by simpa using List.all_eq_true.1 hall t hm)⟩)
    (by kernel_rfl)
end Go.Proofs.YtmakhnpjfdgocaaDoor.fnExactParsePuzzle
namespace Go.Proofs.YtmakhnpjfdgocaaDoor
/-- The statement, under a short name, for the claim. -/
theorem fnExactParsePuzzle_holds : Rows.FnExactParsePuzzleCardSaid := fnExactParsePuzzle.proved
#print axioms fnExactParsePuzzle_holds
end Go.Proofs.YtmakhnpjfdgocaaDoor
