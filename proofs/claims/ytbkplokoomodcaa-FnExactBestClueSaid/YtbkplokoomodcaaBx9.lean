/- Plain Lean functions with the answers of Go functions, and proofs of it: printed by a program of this session (pr.py) over the kit's print, with hand-written parts. -/
import Derived.Test.YtbkplokoomodcaaBx0
import Derived.Test.YtbkplokoomodcaaBx1
import Derived.Test.YtbkplokoomodcaaBx2
import Derived.Test.YtbkplokoomodcaaBx7
import Derived.Test.YtbkplokoomodcaaBx8
namespace Go.Proofs.Ytbkplokoomodcaa.B
open Go.RowKit Go.Proofs.YtbkplokoomodcaaW.PrintWords Go.Proofs.YtbkplokoomodcaaW.PrintLast Go.Proofs.YtbkplokoomodcaaW.PrintMore
attribute [local go_sem] max2_int min2_int max_two min_two max_three min_three max_four min_four   -- for this text's walks alone
set_option linter.unusedVariables false
set_option linter.unusedSimpArgs false

-- FOR impl.play
-- CALLS (*impl.reaches).best ; impl.countBroken
def playL (br : Int) : Nat → Int → Int → Int → List S121
  | 0, _, _, _ => []
  | n + 1, e, lo, fl => if 0 < fl then ⟨lo + bestF e.toNat fl, decide (br < lo + bestF e.toNat fl)⟩ :: (if br < lo + bestF e.toNat fl then playL br n (e - 1) lo (bestF e.toNat fl - 1) else playL br n e (lo + bestF e.toNat fl) (fl - bestF e.toNat fl)) else []
theorem playL_done (br : Int) (n : Nat) (e lo fl : Int) (h : ¬ 0 < fl) : playL br n e lo fl = [] := by
  cases n with
  | zero => rfl
  | succ n => exact if_neg h
theorem bestF_lo (e : Nat) (fl : Int) : 1 ≤ bestF e fl := by unfold bestF; omega
theorem bestF_hi (e : Nat) (fl : Int) (h : 0 < fl) : bestF e fl ≤ fl := by have := reachAt_lo (few e fl - 1) e; unfold bestF; omega
theorem reachAt_one (t : Nat) (h : t ≤ 1000) : reachAt t 1 = t := by
  induction t with
  | zero => rfl
  | succ t ih =>
    have h1 := ih (by omega)
    have h0 : reachAt t 0 = 0 := by cases t <;> simp [reachAt]
    rw [reachAt.eq_3, h0, h1]; omega
theorem bestF_one (fl : Int) (h0 : 0 < fl) (h1 : fl ≤ 1000) : bestF 1 fl = 1 := by
  have h2 : few 1 fl = fl.toNat := few_is 1 fl fl.toNat (by omega) (fun s hs => by rw [reachAt_one s (by omega)]; omega) (.inr (by rw [reachAt_one _ (by omega)]; omega))
  unfold bestF
  rw [h2, reachAt_one _ (by omega)]
  omega
set_option maxHeartbeats 8000000 in
set_option maxRecDepth 1000000 in
theorem play.calls (w : World) (b : Nat) (e0 fl0 br : Int) (hR : Rch w b) (he0 : 1 ≤ e0) (he1 : e0 ≤ 10) (hf0 : 0 ≤ fl0) (hf1 : fl0 ≤ 1000) :
    Calls Try.prog 118 #[.int .i64 e0, .int .i64 fl0, .int .i64 br, .func (.func 119) #[.pointer (some ⟨b, 0, none⟩)] #[]] w fun e w' => ∃ v0_ : Value, e = .returned (v0_) ∧ Kd.R k121 121 w' w.heap.size (fun _ => True) v0_ (playL br fl0.toNat e0 0 fl0) ∧ Below w.heap.size w w' := by
  have hu := Try.underlying121
  have HR := Aside0.mk hR
  have HE := Aside0.mk (And.intro (And.intro he0 he1) (And.intro hf0 hf1))
  clear hR he0 he1 hf0 hf1
  go_enter Try.func118, Try.ntmps118
  go_wp2
  go_loopg [0, 1, 9, 10] fl0.toNat (fun n v0 v1 v9 v10 w' => ∃ (e fl lo : Int) (xs : List S121), v0 = .int .i64 e ∧ v1 = .int .i64 fl ∧ v10 = .int .i64 lo ∧ Aside0 (0 ≤ lo ∧ 0 ≤ fl ∧ lo + fl ≤ 1000 ∧ 0 ≤ e ∧ e ≤ 10 ∧ (0 < fl → 1 ≤ e) ∧ fl ≤ n ∧ xs.length + n ≤ 1000) ∧ Aside0 (xs ++ playL br n e lo fl = playL br fl0.toNat e0 0 fl0) ∧ Aside0 (Kd.R k121 121 w' w.heap.size (fun _ => True) v9 xs) ∧ Aside0 (Below w.heap.size w w'))
  case atStart => exact ⟨e0, fl0, 0, [], rfl, rfl, rfl, ⟨by have := HE.out; simp; omega⟩, ⟨rfl⟩, ⟨Hw.R_empty _ _ _ _ _ (Nat.le_refl _) trivial⟩, ⟨by repeat (first | exact Below.refl _ _ | apply below_alloc | apply below_drew1)⟩⟩
  case round =>
    obtain ⟨e, fl, lo, xs, rfl, rfl, rfl, HK, HL, HO, HB⟩ := hrel
    by_cases hlt : 0 < fl
    · have d1 : decide (0 < fl) = true := decide_eq_true hlt
      obtain ⟨k1, rfl⟩ : ∃ k1, gk = k1 + 1 := ⟨gk - 1, by have := HK.out; omega⟩
      obtain ⟨f, hf⟩ : ∃ f : Int, bestF e.toNat fl = f := ⟨_, rfl⟩
      have hf1 : 1 ≤ f := by rw [← hf]; exact bestF_lo _ _
      have hf2 : f ≤ fl := by rw [← hf]; exact bestF_hi _ _ hlt
      have hf3 : e = 1 → f = 1 := by intro h_; rw [← hf, h_]; exact bestF_one fl hlt (by have := HK.out; omega)
      obtain ⟨s, hs⟩ : ∃ s : Int, s = lo + f := ⟨_, rfl⟩
      have w1 : IntKind.i64.wrap (lo + f) = s := by rw [hs]; exact Hw.wrap_w (by have := HK.out; omega) (by have := HK.out; omega)
      obtain ⟨y, hy⟩ : ∃ y : List S121, y = xs ++ [⟨s, decide (br < s)⟩] := ⟨_, rfl⟩
      have HBe : Aside0 (∀ W, Below w.heap.size w W → Calls Try.prog 119 (#[.pointer (some ⟨b, 0, none⟩)] ++ #[.int .i64 e, .int .i64 fl]) W fun en w' => en = .returned (.int .i64 f) ∧ w' = W.drew) := ⟨fun W hW => by rw [← hf]; exact best.calls W b e fl (by obtain ⟨cs, h1, h2⟩ := HR.out; exact ⟨cs, blk_below h1 hW, h2⟩) (by have := HK.out; omega) (by have := HK.out; omega) hlt (by have := HK.out; omega)⟩
      have HL2 : Aside0 (y ++ (if br < s then playL br k1 (e - 1) lo (f - 1) else playL br k1 e s (fl - f)) = playL br fl0.toNat e0 0 fl0) := ⟨by have h_ := HL.out; rw [playL, if_pos hlt, hf, ← hs] at h_; rw [hy, ← h_]; simp⟩
      have HF := Aside0.mk (And.intro hf1 (And.intro hf2 (And.intro hf3 (And.intro hs hlt))))
      have Ny := Aside0.mk hy
      clear hf hf1 hf2 hf3 hs hy hlt HL
      by_cases hc : br < s
      · have d2 : decide (br < s) = true := decide_eq_true hc
        rw [if_pos hc] at HL2
        rw [d2] at Ny
        have HC := Aside0.mk hc
        have w2 : IntKind.i64.wrap (e - 1) = e - 1 := Hw.wrap_w (by have := HK.out; omega) (by have := HK.out; omega)
        have w3 : IntKind.i64.wrap (f - 1) = f - 1 := Hw.wrap_w (by have := HF.out; have := HK.out; omega) (by have := HF.out; have := HK.out; omega)
        clear hc
        go_wp2_with (first | ((with_reducible refine Hw.gateV (t := 16) rfl ?_); go_loud (refine Hw.goesM (some 19) rfl rfl Try.func119 (by kernel_rfl) rfl #[.int .i64 e, .int .i64 fl] rfl rfl (by simp only [List.map_toArray, List.map_cons, List.map_nil]; rfl) ?_); (refine (HBe.out _ HB.out).mono ?_); rintro en w1 ⟨rfl, hw⟩; have hb : Below w.heap.size w w1 := (by rw [hw]; exact below_drew1 HB.out); have ho : Kd.R k121 121 w1 w.heap.size (fun _ => True) u9 xs := (by rw [hw]; exact Kd.R_drew HO.out); clear hw HB HO; have HB := Aside0.mk hb; have HO := Aside0.mk ho; clear hb ho; refine ⟨_, rfl, ?_⟩) | ((with_reducible refine gate_builtin (b := .append) (xs := #[.tmp 25, .tmp 31]) rfl ?_); at_builtin; refine Kd.R_append k121 (w0 := w) w.heap.size rfl (.tmp 25) (.tmp 31) 105 121 (.agg #[(.int .i64 0), (.bool false)]) 16 rfl Try.underlying105 info121 rfl (by decide) (by omega) u9 xs (⟨s, true⟩ : S121) [.int .i64 s, .bool true] (fun _ => True) (fun _ => False) rfl rfl ?aP (fun _ hk => hk.elim) ?aF ?aO ?aB ?aS ?aL ?_; (case aP => exact k121_mkM _ _ _ (⟨s, true⟩ : S121)); (case aB => exact (by repeat (first | (with_reducible first | exact HB.out | apply below_alloc | apply pw_below_drewN | apply below_drew1) | exact HB.out))); (case aF => exact (fun _ _ => trivial)); (case aO => exact (by (with_reducible repeat (first | apply Kd.R_alloc | apply Kd.R_drewN | apply Kd.R_drew)); exact HO.out)); (case aS => exact (below_size (by repeat (first | (with_reducible first | exact HB.out | apply below_alloc | apply pw_below_drewN | apply below_drew1) | exact HB.out)))); (case aL => have := HK.out; omega); intro v2 w2 ho hb hg hat; rw [← Ny.out] at ho; clear HB HO; have HB := Aside0.mk hb; have HO := Aside0.mk ho; clear ho hb hg hat))
        go_roundg k1
        case measure => omega
        case rel => exact ⟨e - 1, f - 1, lo, y, rfl, rfl, rfl, ⟨by have := HK.out; have := HF.out; have h_ : y.length = xs.length + 1 := (by rw [Ny.out]; simp); omega⟩, HL2, ⟨HO.out⟩, ⟨HB.out⟩⟩
      · have d2 : decide (br < s) = false := decide_eq_false hc
        rw [if_neg hc] at HL2
        rw [d2] at Ny
        have HC := Aside0.mk hc
        have w2 : IntKind.i64.wrap (fl - f) = fl - f := Hw.wrap_w (by have := HF.out; have := HK.out; omega) (by have := HF.out; have := HK.out; omega)
        clear hc
        go_wp2_with (first | ((with_reducible refine Hw.gateV (t := 16) rfl ?_); go_loud (refine Hw.goesM (some 19) rfl rfl Try.func119 (by kernel_rfl) rfl #[.int .i64 e, .int .i64 fl] rfl rfl (by simp only [List.map_toArray, List.map_cons, List.map_nil]; rfl) ?_); (refine (HBe.out _ HB.out).mono ?_); rintro en w1 ⟨rfl, hw⟩; have hb : Below w.heap.size w w1 := (by rw [hw]; exact below_drew1 HB.out); have ho : Kd.R k121 121 w1 w.heap.size (fun _ => True) u9 xs := (by rw [hw]; exact Kd.R_drew HO.out); clear hw HB HO; have HB := Aside0.mk hb; have HO := Aside0.mk ho; clear hb ho; refine ⟨_, rfl, ?_⟩) | ((with_reducible refine gate_builtin (b := .append) (xs := #[.tmp 25, .tmp 31]) rfl ?_); at_builtin; refine Kd.R_append k121 (w0 := w) w.heap.size rfl (.tmp 25) (.tmp 31) 105 121 (.agg #[(.int .i64 0), (.bool false)]) 16 rfl Try.underlying105 info121 rfl (by decide) (by omega) u9 xs (⟨s, false⟩ : S121) [.int .i64 s, .bool false] (fun _ => True) (fun _ => False) rfl rfl ?aP (fun _ hk => hk.elim) ?aF ?aO ?aB ?aS ?aL ?_; (case aP => exact k121_mkM _ _ _ (⟨s, false⟩ : S121)); (case aB => exact (by repeat (first | (with_reducible first | exact HB.out | apply below_alloc | apply pw_below_drewN | apply below_drew1) | exact HB.out))); (case aF => exact (fun _ _ => trivial)); (case aO => exact (by (with_reducible repeat (first | apply Kd.R_alloc | apply Kd.R_drewN | apply Kd.R_drew)); exact HO.out)); (case aS => exact (below_size (by repeat (first | (with_reducible first | exact HB.out | apply below_alloc | apply pw_below_drewN | apply below_drew1) | exact HB.out)))); (case aL => have := HK.out; omega); intro v2 w2 ho hb hg hat; rw [← Ny.out] at ho; clear HB HO; have HB := Aside0.mk hb; have HO := Aside0.mk ho; clear ho hb hg hat))
        go_roundg k1
        case measure => omega
        case rel => exact ⟨e, fl - f, s, y, rfl, rfl, rfl, ⟨by have := HK.out; have := HF.out; have h_ : y.length = xs.length + 1 := (by rw [Ny.out]; simp); omega⟩, HL2, ⟨HO.out⟩, ⟨HB.out⟩⟩
    · have d1 : decide (0 < fl) = false := decide_eq_false hlt
      have HL2 : Aside0 (xs = playL br fl0.toNat e0 0 fl0) := ⟨by rw [← HL.out, playL_done _ _ _ _ _ hlt]; simp⟩
      clear hlt
      go_wp2
      go_ret
      exact ⟨_, rfl, by rw [← HL2.out]; exact HO.out, HB.out⟩


-- FOR (*impl.reaches).asHas
-- CALLS impl.play ; impl.countBroken ; impl.IsClue ; impl.IsPuzzle
def brokenN (l : List S121) : Nat := (l.filter (fun d => d.f1)).length
theorem brokenN_cons (d : S121) (l : List S121) : brokenN (d :: l) = (if d.f1 then 1 else 0) + brokenN l := by
  unfold brokenN
  rw [List.filter_cons]
  split <;> simp [*] <;> omega
theorem brokenN_le (l : List S121) : brokenN l ≤ l.length := List.length_filter_le _ _
theorem countBroken_l (l : List S121) (hl : l.length ≤ 1000000) (n i : Nat) (x : Int) (hi : i + n = l.length) (hx0 : 0 ≤ x) (hx1 : x + n ≤ 1000000) : impl_countBroken.l0 (n + 1) x l (l.length : Int) (i : Int) = some (x + brokenN (l.drop i)) := by
  induction n generalizing i x with
  | zero =>
    rw [impl_countBroken.l0, if_neg (by omega), List.drop_of_length_le (by omega)]
    simp [brokenN]
  | succ n ih =>
    have hlt : i < l.length := by omega
    have hr : rd_T121 l (i : Int) = l[i] := by simp [rd_T121, hlt]
    rw [impl_countBroken.l0, if_pos (by omega), if_pos (by omega), if_pos (by omega), hr, List.drop_eq_getElem_cons hlt, brokenN_cons, Hw.wrap_id (by omega) (by omega), Hw.wrap_id (by omega) (by omega)]
    have h1 := ih (i + 1) (x + 1) (by omega) (by omega) (by omega)
    have h2 := ih (i + 1) x (by omega) (by omega) (by omega)
    simp only [Int.natCast_add, Int.natCast_one] at h1 h2
    split
    · rename_i h; rw [h1]; congr 1; simp [h]; omega
    · rename_i h; rw [h2]; congr 1; simp [h]
theorem countBroken_some (l : List S121) (hl : l.length ≤ 1000000) : impl_countBroken.f (l.length + 1) l = some (brokenN l : Int) := by
  have := countBroken_l l hl l.length 0 0 (by omega) (by omega) (by omega)
  simpa [impl_countBroken.f] using this
theorem playL_len (br : Int) (n : Nat) (e lo fl : Int) : (playL br n e lo fl).length ≤ n := by
  induction n generalizing e lo fl with
  | zero => exact Nat.le_refl _
  | succ n ih =>
    unfold playL
    split
    · rw [List.length_cons]
      split
      · exact Nat.succ_le_succ (ih _ _ _)
      · exact Nat.succ_le_succ (ih _ _ _)
    · exact Nat.zero_le _
def asHasV (fl k a br : Int) : Int := if k = 0 then (if br < a then 1 else 0) else if k = 1 then br.tmod a else if k = 2 then (playL br fl.toNat a 0 fl).length else if k = 3 then brokenN (playL br fl.toNat a 0 fl) else max (br - a) (a - br)
def okA (fl k a : Int) : Prop := 0 ≤ k ∧ k ≤ 4 ∧ (k = 1 → 2 ≤ a) ∧ (k = 2 ∨ k = 3 → 1 ≤ a ∧ a ≤ 10) ∧ (k = 4 → 0 ≤ a ∧ a ≤ fl)
set_option maxHeartbeats 8000000 in
set_option maxRecDepth 1000000 in
theorem asHas.calls (w : World) (b : Nat) (fl k a v br : Int) (hR : Rch w b) (hk : okA fl k a) (hf0 : 0 ≤ fl) (hf1 : fl ≤ 1000) (hb0 : 0 ≤ br) (hb1 : br ≤ fl) :
    Calls Try.prog 98 #[.pointer (some ⟨b, 0, none⟩), .int .i64 fl, .agg #[.int .i64 k, .int .i64 a, .int .i64 v], .int .i64 br] w fun e w' => e = .returned (.agg #[.int .i64 k, .int .i64 a, .int .i64 (asHasV fl k a br)]) ∧ Below w.heap.size w w' := by
  have HK := Aside0.mk hk
  have HF := Aside0.mk (And.intro hf0 (And.intro hf1 (And.intro hb0 hb1)))
  have HR := Aside0.mk hR
  obtain ⟨k0, k1, k2, k3, k4⟩ := hk
  clear hR hf0 hf1 hb0 hb1
  rcases (by omega : k = 0 ∨ k = 1 ∨ k = 2 ∨ k = 3 ∨ k = 4) with rfl | rfl | rfl | rfl | rfl
  · clear k0 k1 k2 k3 k4
    by_cases hc : br < a
    · have HV : Aside0 (asHasV fl 0 a br = 1) := ⟨by unfold asHasV; rw [if_pos rfl, if_pos hc]⟩
      have d1 : decide (br < a) = true := decide_eq_true hc
      clear hc
      go_enter Try.func98, Try.ntmps98
      go_wp2
      refine bodyPost_ret (results_cell_row rfl _ _ (w.heap.size + 1) 25 #[.int .i64 0, .int .i64 a, .int .i64 1] (0, 0) _ rfl (by have h_ := blk_new (w.alloc (Obj.cells #[Value.int IntKind.i64 0, Value.int IntKind.i64 a, Value.int IntKind.i64 1] 25)) (Obj.cells #[Value.int IntKind.i64 0, Value.int IntKind.i64 a, Value.int IntKind.i64 1] 25); rwa [World.size_alloc] at h_) Try.underlying25 rfl (by kernel_rfl)) rfl ⟨by rw [HV.out], below_alloc (below_alloc (Below.refl _ _) _) _⟩
    · have HV : Aside0 (asHasV fl 0 a br = 0) := ⟨by unfold asHasV; rw [if_pos rfl, if_neg hc]⟩
      have d1 : decide (br < a) = false := decide_eq_false hc
      clear hc
      go_enter Try.func98, Try.ntmps98
      go_wp2
      refine bodyPost_ret (results_cell_row rfl _ _ (w.heap.size + 1) 25 #[.int .i64 0, .int .i64 a, .int .i64 0] (0, 0) _ rfl (by have h_ := blk_new (w.alloc (Obj.cells #[Value.int IntKind.i64 0, Value.int IntKind.i64 a, Value.int IntKind.i64 0] 25)) (Obj.cells #[Value.int IntKind.i64 0, Value.int IntKind.i64 a, Value.int IntKind.i64 0] 25); rwa [World.size_alloc] at h_) Try.underlying25 rfl (by kernel_rfl)) rfl ⟨by rw [HV.out], below_alloc (below_alloc (Below.refl _ _) _) _⟩
  · have hne : a ≠ 0 := by have := k2 rfl; omega
    have hne' : (a = 0) = False := eq_false hne
    have hd : decide (a = 0) = false := decide_eq_false hne
    obtain ⟨m, hm⟩ : ∃ m : Int, m = br.tmod a := ⟨_, rfl⟩
    have hw : IntKind.i64.wrap (br.tmod a) = m := by
      rw [← hm]
      have h2 := k2 rfl
      have h3 := HF.out
      have h4 := Int.tmod_nonneg a h3.2.2.1
      have h5 := Int.tmod_lt_of_pos br (show 0 < a by omega)
      have h6 : br.tmod a ≤ br := by
        rcases Int.lt_or_le br a with h | h
        · rw [Int.tmod_eq_emod_of_nonneg h3.2.2.1, Int.emod_eq_of_lt h3.2.2.1 h]; exact Int.le_refl _
        · omega
      exact Hw.wrap_w (by omega) (by omega)
    have hm2 : br.tmod a = m := hm.symm
    have HV : Aside0 (asHasV fl 1 a br = m) := ⟨by unfold asHasV; rw [if_neg (by decide), if_pos rfl, hm]⟩
    clear hm k0 k1 k2 k3 k4
    go_enter Try.func98, Try.ntmps98
    go_wp2
    refine bodyPost_ret (results_cell_row rfl _ _ (w.heap.size + 1) 25 #[.int .i64 1, .int .i64 a, .int .i64 m] (0, 0) _ rfl (by have h_ := blk_new (w.alloc (Obj.cells #[Value.int IntKind.i64 1, Value.int IntKind.i64 a, Value.int IntKind.i64 m] 25)) (Obj.cells #[Value.int IntKind.i64 1, Value.int IntKind.i64 a, Value.int IntKind.i64 m] 25); rwa [World.size_alloc] at h_) Try.underlying25 rfl (by kernel_rfl)) rfl ⟨by rw [HV.out], below_alloc (below_alloc (Below.refl _ _) _) _⟩
  · obtain ⟨q0, q1⟩ := k3 (by omega)
    clear k0 k1 k2 k3 k4
    have HV : Aside0 (asHasV fl 2 a br = ((playL br fl.toNat a 0 fl).length : Int)) := ⟨by unfold asHasV; rw [if_neg (by decide), if_neg (by decide), if_pos rfl]⟩
    obtain ⟨L, hL⟩ : ∃ L, L = playL br fl.toNat a 0 fl := ⟨_, rfl⟩
    have HLn : Aside0 (L.length ≤ 1000) := ⟨by rw [hL]; have := playL_len br fl.toNat a 0 fl; have := HF.out; omega⟩
    have HCB : Aside0 (impl_countBroken.f (L.length + 1) L = some (brokenN L : Int)) := ⟨countBroken_some L (by have := HLn.out; omega)⟩
    have HP : Aside0 (∀ W, Below w.heap.size w W → Calls Try.prog 118 #[.int .i64 a, .int .i64 fl, .int .i64 br, .func (.func 119) #[.pointer (some ⟨b, 0, none⟩)] #[]] W fun e w' => ∃ v0_ : Value, e = .returned (v0_) ∧ Kd.R k121 121 w' W.heap.size (fun _ => True) v0_ L ∧ Below W.heap.size W w') := ⟨fun W hW => by
      obtain ⟨cs, h1, h2⟩ := HR.out
      rw [hL]
      exact play.calls W b a fl br ⟨cs, blk_below h1 hW, h2⟩ q0 q1 HF.out.1 HF.out.2.1⟩
    rw [← hL] at HV
    obtain ⟨n, hn⟩ : ∃ n : Int, n = (L.length : Int) := ⟨_, rfl⟩
    rw [← hn] at HV
    have hn2 := hn.symm
    clear hL q0 q1 hn
    have hmf : ∀ (fn : Fn) (first cap : Array Value) (w : World), (Instr.makeFunc fn first cap).run Try.prog w = .ok (.func fn first cap) w := fun _ _ _ _ => rfl
    have hB0 : Aside0 (Below w.heap.size w ((w.alloc (Obj.cells #[Value.int IntKind.i64 2, Value.int IntKind.i64 a, Value.int IntKind.i64 v] 25)).alloc (Obj.cells #[Value.int IntKind.i64 0, Value.int IntKind.i64 0, Value.int IntKind.i64 0] 25))) := ⟨below_alloc (below_alloc (Below.refl _ _) _) _⟩
    have BK : Aside0 (((w.alloc (Obj.cells #[Value.int IntKind.i64 2, Value.int IntKind.i64 a, Value.int IntKind.i64 v] 25)).alloc (Obj.cells #[Value.int IntKind.i64 0, Value.int IntKind.i64 0, Value.int IntKind.i64 0] 25)).heap[w.heap.size]? = some (.cells #[Value.int IntKind.i64 2, Value.int IntKind.i64 a, Value.int IntKind.i64 v] 25 (0, 0))) := ⟨blk_alloc (blk_new _ _) _⟩
    have BJ : Aside0 (((w.alloc (Obj.cells #[Value.int IntKind.i64 2, Value.int IntKind.i64 a, Value.int IntKind.i64 v] 25)).alloc (Obj.cells #[Value.int IntKind.i64 0, Value.int IntKind.i64 0, Value.int IntKind.i64 0] 25)).heap[w.heap.size + 1]? = some (.cells #[Value.int IntKind.i64 0, Value.int IntKind.i64 0, Value.int IntKind.i64 0] 25 (0, 0))) := ⟨by have h_ := blk_new (w.alloc (Obj.cells #[Value.int IntKind.i64 2, Value.int IntKind.i64 a, Value.int IntKind.i64 v] 25)) (Obj.cells #[Value.int IntKind.i64 0, Value.int IntKind.i64 0, Value.int IntKind.i64 0] 25); rwa [World.size_alloc] at h_⟩
    go_enter Try.func98, Try.ntmps98
    go_wp2_with (first | (go_at_call 118; refine (HP.out _ hB0.out).mono ?_; rintro e w1 ⟨v1, rfl, hO, hb1⟩; obtain ⟨A1, c1, rfl⟩ := Kd.R_slice hO; have HO1 := Aside0.mk hO; have HB1 := Aside0.mk (below_step hB0.out hb1); have BK1 := Aside0.mk (blk_below BK.out hb1); have BJ1 := Aside0.mk (blk_below BJ.out hb1); have c10 := (blk_cell BK1.out 0).trans rfl; have d10 := (blk_cell BJ1.out 0).trans rfl; have f10 := blk_frozen BK1.out 0; have g10 := blk_frozen BJ1.out 0; have c11 := (blk_cell BK1.out 1).trans rfl; have d11 := (blk_cell BJ1.out 1).trans rfl; have f11 := blk_frozen BK1.out 1; have g11 := blk_frozen BJ1.out 1; have c12 := (blk_cell BK1.out 2).trans rfl; have d12 := (blk_cell BJ1.out 2).trans rfl; have f12 := blk_frozen BK1.out 2; have g12 := blk_frozen BJ1.out 2))
    refine bodyPost_ret (results_cell_row rfl _ _ (w.heap.size + 1) 25 #[Value.int IntKind.i64 2, Value.int IntKind.i64 a, Value.int IntKind.i64 n] (0, 0) _ rfl (blk_put (cs := #[Value.int IntKind.i64 2, Value.int IntKind.i64 a, Value.int IntKind.i64 0]) (blk_put (cs := #[Value.int IntKind.i64 2, Value.int IntKind.i64 0, Value.int IntKind.i64 0]) (blk_put (cs := #[Value.int IntKind.i64 0, Value.int IntKind.i64 0, Value.int IntKind.i64 0]) (blk_far BJ1.out (by simp) _) 0 _ rfl) 1 _ rfl) 2 _ rfl) Try.underlying25 rfl (by kernel_rfl)) rfl ⟨by rw [HV.out], below_set (below_set (below_set (below_set HB1.out (by simp)) (by simp)) (by simp)) (by simp)⟩
  · obtain ⟨q0, q1⟩ := k3 (by omega)
    clear k0 k1 k2 k3 k4
    have HV : Aside0 (asHasV fl 3 a br = (brokenN (playL br fl.toNat a 0 fl) : Int)) := ⟨by unfold asHasV; rw [if_neg (by decide), if_neg (by decide), if_neg (by decide), if_pos rfl]⟩
    obtain ⟨L, hL⟩ : ∃ L, L = playL br fl.toNat a 0 fl := ⟨_, rfl⟩
    have HLn : Aside0 (L.length ≤ 1000) := ⟨by rw [hL]; have := playL_len br fl.toNat a 0 fl; have := HF.out; omega⟩
    have HCB : Aside0 (impl_countBroken.f (L.length + 1) L = some (brokenN L : Int)) := ⟨countBroken_some L (by have := HLn.out; omega)⟩
    have HP : Aside0 (∀ W, Below w.heap.size w W → Calls Try.prog 118 #[.int .i64 a, .int .i64 fl, .int .i64 br, .func (.func 119) #[.pointer (some ⟨b, 0, none⟩)] #[]] W fun e w' => ∃ v0_ : Value, e = .returned (v0_) ∧ Kd.R k121 121 w' W.heap.size (fun _ => True) v0_ L ∧ Below W.heap.size W w') := ⟨fun W hW => by
      obtain ⟨cs, h1, h2⟩ := HR.out
      rw [hL]
      exact play.calls W b a fl br ⟨cs, blk_below h1 hW, h2⟩ q0 q1 HF.out.1 HF.out.2.1⟩
    rw [← hL] at HV
    obtain ⟨n, hn⟩ : ∃ n : Int, n = (brokenN L : Int) := ⟨_, rfl⟩
    rw [← hn] at HV HCB
    have hn2 := hn.symm
    clear hL q0 q1 hn
    have hmf : ∀ (fn : Fn) (first cap : Array Value) (w : World), (Instr.makeFunc fn first cap).run Try.prog w = .ok (.func fn first cap) w := fun _ _ _ _ => rfl
    have hB0 : Aside0 (Below w.heap.size w ((w.alloc (Obj.cells #[Value.int IntKind.i64 3, Value.int IntKind.i64 a, Value.int IntKind.i64 v] 25)).alloc (Obj.cells #[Value.int IntKind.i64 0, Value.int IntKind.i64 0, Value.int IntKind.i64 0] 25))) := ⟨below_alloc (below_alloc (Below.refl _ _) _) _⟩
    have BK : Aside0 (((w.alloc (Obj.cells #[Value.int IntKind.i64 3, Value.int IntKind.i64 a, Value.int IntKind.i64 v] 25)).alloc (Obj.cells #[Value.int IntKind.i64 0, Value.int IntKind.i64 0, Value.int IntKind.i64 0] 25)).heap[w.heap.size]? = some (.cells #[Value.int IntKind.i64 3, Value.int IntKind.i64 a, Value.int IntKind.i64 v] 25 (0, 0))) := ⟨blk_alloc (blk_new _ _) _⟩
    have BJ : Aside0 (((w.alloc (Obj.cells #[Value.int IntKind.i64 3, Value.int IntKind.i64 a, Value.int IntKind.i64 v] 25)).alloc (Obj.cells #[Value.int IntKind.i64 0, Value.int IntKind.i64 0, Value.int IntKind.i64 0] 25)).heap[w.heap.size + 1]? = some (.cells #[Value.int IntKind.i64 0, Value.int IntKind.i64 0, Value.int IntKind.i64 0] 25 (0, 0))) := ⟨by have h_ := blk_new (w.alloc (Obj.cells #[Value.int IntKind.i64 3, Value.int IntKind.i64 a, Value.int IntKind.i64 v] 25)) (Obj.cells #[Value.int IntKind.i64 0, Value.int IntKind.i64 0, Value.int IntKind.i64 0] 25); rwa [World.size_alloc] at h_⟩
    go_enter Try.func98, Try.ntmps98
    go_wp2_with (first | (go_at_call 118; refine (HP.out _ hB0.out).mono ?_; rintro e w1 ⟨v1, rfl, hO, hb1⟩; obtain ⟨A1, c1, rfl⟩ := Kd.R_slice hO; have HO1 := Aside0.mk hO; have HB1 := Aside0.mk (below_step hB0.out hb1); have BK1 := Aside0.mk (blk_below BK.out hb1); have BJ1 := Aside0.mk (blk_below BJ.out hb1); have c10 := (blk_cell BK1.out 0).trans rfl; have d10 := (blk_cell BJ1.out 0).trans rfl; have f10 := blk_frozen BK1.out 0; have g10 := blk_frozen BJ1.out 0; have c11 := (blk_cell BK1.out 1).trans rfl; have d11 := (blk_cell BJ1.out 1).trans rfl; have f11 := blk_frozen BK1.out 1; have g11 := blk_frozen BJ1.out 1; have c12 := (blk_cell BK1.out 2).trans rfl; have d12 := (blk_cell BJ1.out 2).trans rfl; have f12 := blk_frozen BK1.out 2; have g12 := blk_frozen BJ1.out 2) | (go_at_call 107; refine (impl_countBroken.calls _ A1 c1 _ _ _ (Kd.R_reads' HO1.out).2.2 (Kd.R_reads' HO1.out).2.1 HCB.out).mono ?_; rintro e2 w2 ⟨rfl, hb2⟩; have HB2 := Aside0.mk (below_step HB1.out hb2); have BK2 := Aside0.mk (blk_below BK1.out hb2); have BJ2 := Aside0.mk (blk_below BJ1.out hb2); have c20 := (blk_cell BK2.out 0).trans rfl; have d20 := (blk_cell BJ2.out 0).trans rfl; have f20 := blk_frozen BK2.out 0; have g20 := blk_frozen BJ2.out 0; have c21 := (blk_cell BK2.out 1).trans rfl; have d21 := (blk_cell BJ2.out 1).trans rfl; have f21 := blk_frozen BK2.out 1; have g21 := blk_frozen BJ2.out 1; have c22 := (blk_cell BK2.out 2).trans rfl; have d22 := (blk_cell BJ2.out 2).trans rfl; have f22 := blk_frozen BK2.out 2; have g22 := blk_frozen BJ2.out 2))
    refine bodyPost_ret (results_cell_row rfl _ _ (w.heap.size + 1) 25 #[Value.int IntKind.i64 3, Value.int IntKind.i64 a, Value.int IntKind.i64 n] (0, 0) _ rfl (blk_put (cs := #[Value.int IntKind.i64 3, Value.int IntKind.i64 a, Value.int IntKind.i64 0]) (blk_put (cs := #[Value.int IntKind.i64 3, Value.int IntKind.i64 0, Value.int IntKind.i64 0]) (blk_put (cs := #[Value.int IntKind.i64 0, Value.int IntKind.i64 0, Value.int IntKind.i64 0]) (blk_far BJ2.out (by simp) _) 0 _ rfl) 1 _ rfl) 2 _ rfl) Try.underlying25 rfl (by kernel_rfl)) rfl ⟨by rw [HV.out], below_set (below_set (below_set (below_set HB2.out (by simp)) (by simp)) (by simp)) (by simp)⟩
  · obtain ⟨q0, q1⟩ := k4 rfl
    obtain ⟨x, hx⟩ : ∃ x : Int, x = br - a := ⟨_, rfl⟩
    obtain ⟨y, hy⟩ : ∃ y : Int, y = a - br := ⟨_, rfl⟩
    have w1 : IntKind.i64.wrap (br - a) = x := by rw [hx]; exact Hw.wrap_w (by have := HF.out; omega) (by have := HF.out; omega)
    have w2 : IntKind.i64.wrap (a - br) = y := by rw [hy]; exact Hw.wrap_w (by have := HF.out; omega) (by have := HF.out; omega)
    have HV : Aside0 (asHasV fl 4 a br = max x y) := ⟨by unfold asHasV; rw [if_neg (by decide), if_neg (by decide), if_neg (by decide), if_neg (by decide), hx, hy]⟩
    by_cases hc : x < y
    · have d1 : decide (x < y) = true := decide_eq_true hc
      have HV2 : Aside0 (max x y = y) := ⟨by omega⟩
      have HV : Aside0 (asHasV fl 4 a br = y) := ⟨HV.out.trans HV2.out⟩
      have hc' : (x < y) = True := eq_true hc
      clear hx hy k0 k1 k2 k3 k4 hc HV2
      go_enter Try.func98, Try.ntmps98
      go_wp2
      refine bodyPost_ret (results_cell_row rfl _ _ (w.heap.size + 1) 25 #[.int .i64 4, .int .i64 a, .int .i64 y] (0, 0) _ rfl (by have h_ := blk_new (w.alloc (Obj.cells #[Value.int IntKind.i64 4, Value.int IntKind.i64 a, Value.int IntKind.i64 y] 25)) (Obj.cells #[Value.int IntKind.i64 4, Value.int IntKind.i64 a, Value.int IntKind.i64 y] 25); rwa [World.size_alloc] at h_) Try.underlying25 rfl (by kernel_rfl)) rfl ⟨by rw [HV.out], below_alloc (below_alloc (Below.refl _ _) _) _⟩
    · have d1 : decide (x < y) = false := decide_eq_false hc
      have HV2 : Aside0 (max x y = x) := ⟨by omega⟩
      have HV : Aside0 (asHasV fl 4 a br = x) := ⟨HV.out.trans HV2.out⟩
      have hc' : (x < y) = False := eq_false hc
      clear hx hy k0 k1 k2 k3 k4 hc HV2
      go_enter Try.func98, Try.ntmps98
      go_wp2
      refine bodyPost_ret (results_cell_row rfl _ _ (w.heap.size + 1) 25 #[.int .i64 4, .int .i64 a, .int .i64 x] (0, 0) _ rfl (by have h_ := blk_new (w.alloc (Obj.cells #[Value.int IntKind.i64 4, Value.int IntKind.i64 a, Value.int IntKind.i64 x] 25)) (Obj.cells #[Value.int IntKind.i64 4, Value.int IntKind.i64 a, Value.int IntKind.i64 x] 25); rwa [World.size_alloc] at h_) Try.underlying25 rfl (by kernel_rfl)) rfl ⟨by rw [HV.out], below_alloc (below_alloc (Below.refl _ _) _) _⟩
theorem isClue_ok {fl k a v : Int} (h : impl_IsClue.f fl k a v = some true) : 1 ≤ fl ∧ fl ≤ 40 ∧ okA fl k a := by
  unfold impl_IsClue.f at h
  rw [hidden_some] at h
  have hw : ∀ x y z : Int, impl_within.f x y z = some (decide (y ≤ x) && decide (x ≤ z)) := by
    intro x y z
    unfold impl_within.f
    by_cases h : y ≤ x <;> simp [h]
  have he : ∀ x : Int, impl_isEggs.f x = some (decide (1 ≤ x) && decide (x ≤ 10)) := by
    intro x; unfold impl_isEggs.f; rw [hw]; rfl
  have hb : ∀ x y : Int, impl_isBreak.f x y = some (decide (0 ≤ y) && decide (y ≤ x)) := by
    intro x y; unfold impl_isBreak.f; rw [hw]; rfl
  simp only [Option.bind_some, hw, he, hb] at h
  unfold okA
  repeat' (split at h)
  all_goals simp at h
  all_goals simp only [Bool.and_eq_true, decide_eq_true_eq] at *
  all_goals omega


-- FOR (*impl.reaches).fits
-- CALLS (*impl.reaches).asHas
set_option maxHeartbeats 8000000 in
set_option maxRecDepth 1000000 in
theorem fits.calls (w : World) (b : Nat) (fl k a v br : Int) (hR : Rch w b) (hk : okA fl k a) (hf0 : 0 ≤ fl) (hf1 : fl ≤ 1000) (hb0 : 0 ≤ br) (hb1 : br ≤ fl) :
    Calls Try.prog 87 #[.pointer (some ⟨b, 0, none⟩), .int .i64 fl, .agg #[.int .i64 k, .int .i64 a, .int .i64 v], .int .i64 br] w fun e w' => e = .returned (.bool (asHasV fl k a br == v)) ∧ Below w.heap.size w w' := by
  have HB : Aside0 (Below w.heap.size w (w.alloc (Obj.cells #[Value.int IntKind.i64 k, Value.int IntKind.i64 a, Value.int IntKind.i64 v] 25))) := ⟨below_alloc (Below.refl _ _) _⟩
  have BK : Aside0 ((w.alloc (Obj.cells #[Value.int IntKind.i64 k, Value.int IntKind.i64 a, Value.int IntKind.i64 v] 25)).heap[w.heap.size]? = some (.cells #[Value.int IntKind.i64 k, Value.int IntKind.i64 a, Value.int IntKind.i64 v] 25 (0, 0))) := ⟨blk_new _ _⟩
  have HP : Aside0 (∀ W, Below w.heap.size w W → Calls Try.prog 98 #[.pointer (some ⟨b, 0, none⟩), .int .i64 fl, .agg #[.int .i64 k, .int .i64 a, .int .i64 v], .int .i64 br] W fun e w' => e = .returned (.agg #[.int .i64 k, .int .i64 a, .int .i64 (asHasV fl k a br)]) ∧ Below W.heap.size W w') := ⟨fun W hW => by
    obtain ⟨cs, h1, h2⟩ := hR
    exact asHas.calls W b fl k a v br ⟨cs, blk_below h1 hW, h2⟩ hk hf0 hf1 hb0 hb1⟩
  have c00 := (blk_cell BK.out 0).trans rfl
  have c01 := (blk_cell BK.out 1).trans rfl
  have c02 := (blk_cell BK.out 2).trans rfl
  clear hR hk hf0 hf1 hb0 hb1
  obtain ⟨n, hn⟩ : ∃ n, n = asHasV fl k a br := ⟨_, rfl⟩
  rw [← hn] at HP ⊢
  clear hn
  by_cases hnv : n = v
  · have h1 : (n == v) = true := by simp [hnv]
    have h2 : decide (n = v) = true := decide_eq_true hnv
    have h3 : (n = v) = True := eq_true hnv
    rw [h1]
    clear hnv
    go_enter Try.func87, Try.ntmps87
    go_wp2
    go_region_held3 (fun w' => w'.cell? ⟨w.heap.size, 0, none⟩ = some (.int .i64 k) ∧ w'.cell? ⟨w.heap.size, 1, none⟩ = some (.int .i64 a) ∧ w'.cell? ⟨w.heap.size, 2, none⟩ = some (.int .i64 v)) (first | exact ⟨c00, c01, c02⟩ | exact ⟨c10, c11, c12⟩) (first | (go_at_call 98; refine (HP.out _ (below_drew1 HB.out)).mono ?_; rintro e w1 ⟨rfl, hb⟩; have HB1 := Aside0.mk (below_step (below_drew1 HB.out) hb); have BK1 := Aside0.mk (blk_below (blk_drew BK.out) hb); have c10 := (blk_cell BK1.out 0).trans rfl; have c11 := (blk_cell BK1.out 1).trans rfl; have c12 := (blk_cell BK1.out 2).trans rfl))
    all_goals go_wp2
    all_goals
      go_ret
      exact ⟨rfl, HB1.out⟩
  · have h1 : (n == v) = false := by simp [hnv]
    have h2 : decide (n = v) = false := decide_eq_false hnv
    have h3 : (n = v) = False := eq_false hnv
    rw [h1]
    clear hnv
    go_enter Try.func87, Try.ntmps87
    go_wp2
    go_region_held3 (fun w' => w'.cell? ⟨w.heap.size, 0, none⟩ = some (.int .i64 k) ∧ w'.cell? ⟨w.heap.size, 1, none⟩ = some (.int .i64 a) ∧ w'.cell? ⟨w.heap.size, 2, none⟩ = some (.int .i64 v)) (first | exact ⟨c00, c01, c02⟩ | exact ⟨c10, c11, c12⟩) (first | (go_at_call 98; refine (HP.out _ (below_drew1 HB.out)).mono ?_; rintro e w1 ⟨rfl, hb⟩; have HB1 := Aside0.mk (below_step (below_drew1 HB.out) hb); have BK1 := Aside0.mk (blk_below (blk_drew BK.out) hb); have c10 := (blk_cell BK1.out 0).trans rfl; have c11 := (blk_cell BK1.out 1).trans rfl; have c12 := (blk_cell BK1.out 2).trans rfl))
    all_goals go_wp2
    all_goals
      go_ret
      exact ⟨rfl, HB1.out⟩


-- FOR (impl.Puzzle).solutions
-- CALLS (*impl.reaches).fits ; slices.ContainsFunc[[]impl.Clue,impl.Clue]
-- USES kd int
-- USES info int
def fitsB (fl : Int) (b : Int) (c : S25) : Bool := asHasV fl c.f0 c.f1 b == c.f2
def solsFrom (fl : Int) (cs : List S25) : Nat → Int → List Int
  | 0, _ => []
  | n + 1, b => if cs.all (fitsB fl b) = true then b :: solsFrom fl cs n (b + 1) else solsFrom fl cs n (b + 1)
def solsF (fl : Int) (cs : List S25) : List Int := solsFrom fl cs (fl + 1).toNat 0
theorem solsFrom_len (fl : Int) (cs : List S25) (n : Nat) (b : Int) : (solsFrom fl cs n b).length ≤ n := by
  induction n generalizing b with
  | zero => exact Nat.le_refl _
  | succ n ih =>
    unfold solsFrom
    split
    · rw [List.length_cons]; exact Nat.succ_le_succ (ih _)
    · exact Nat.le_succ_of_le (ih _)
set_option maxHeartbeats 8000000 in
set_option maxRecDepth 1000000 in
theorem solutions1.calls (fl br : Int) (b g1 g2 g3 : Nat) (V : Value) (x : S25) (W : World) (hR : Rch W b)
    (h1 : W.cell? ⟨g1, 0, none⟩ = some (.pointer (some ⟨b, 0, none⟩))) (h2 : W.cell? ⟨g2, 0, none⟩ = some (.int .i64 fl)) (h3 : W.cell? ⟨g3, 0, none⟩ = some (.int .i64 br))
    (hk : okA fl x.f0 x.f1) (hf0 : 0 ≤ fl) (hf1 : fl ≤ 1000) (hb0 : 0 ≤ br) (hb1 : br ≤ fl) :
    Calls Try.prog 120 #[.agg #[.int .i64 x.f0, .int .i64 x.f1, .int .i64 x.f2], .pointer (some ⟨g1, 0, none⟩), .pointer (some ⟨g2, 0, none⟩), .pointer (some ⟨g3, 0, none⟩)] W fun e W' => e = .returned (.bool (!fitsB fl br x)) ∧ Below W.heap.size W W' := by
  have HB : Aside0 (Below W.heap.size W (W.alloc (Obj.cells #[Value.int IntKind.i64 x.f0, Value.int IntKind.i64 x.f1, Value.int IntKind.i64 x.f2] 25))) := ⟨below_alloc (Below.refl _ _) _⟩
  have l1 := World.block_lt_of_cell? W _ h1
  have l2 := World.block_lt_of_cell? W _ h2
  have l3 := World.block_lt_of_cell? W _ h3
  have HP : Aside0 (Calls Try.prog 87 #[.pointer (some ⟨b, 0, none⟩), .int .i64 fl, .agg #[.int .i64 x.f0, .int .i64 x.f1, .int .i64 x.f2], .int .i64 br] (W.alloc (Obj.cells #[Value.int IntKind.i64 x.f0, Value.int IntKind.i64 x.f1, Value.int IntKind.i64 x.f2] 25)) fun e w' => e = .returned (.bool (fitsB fl br x)) ∧ Below (W.heap.size + 1) (W.alloc (Obj.cells #[Value.int IntKind.i64 x.f0, Value.int IntKind.i64 x.f1, Value.int IntKind.i64 x.f2] 25)) w') := ⟨by
    obtain ⟨cs, q1, q2⟩ := hR
    exact (fits.calls _ b fl x.f0 x.f1 x.f2 br ⟨cs, blk_alloc q1 _, q2⟩ hk hf0 hf1 hb0 hb1).mono fun e w' h => ⟨h.1, by simpa using h.2⟩⟩
  clear hR hk hf0 hf1 hb0 hb1
  go_enter Try.func120, Try.ntmps120
  go_wp2_with (first | (go_at_call 87; refine HP.out.mono ?_; rintro e w1 ⟨rfl, hb1⟩))
  go_ret
  exact ⟨rfl, HB.out.trans (hb1.mono (by simp))⟩
set_option maxHeartbeats 8000000 in
set_option maxRecDepth 1000000 in
theorem solutions.calls (w : World) (b : Nat) (fl : Int) (Ap A : Option Addr) (np cp c : Nat) (l : List S25) (hR : Rch w b) (hr : Kd.C k25 w A l.length l) (hc : l.length ≤ c) (hf0 : 0 ≤ fl) (hf1 : fl ≤ 1000) (hk : ∀ x ∈ l, okA fl x.f0 x.f1) :
    Calls Try.prog 101 #[.agg #[.int .i64 fl, .slice Ap np cp], .pointer (some ⟨b, 0, none⟩), .slice A l.length c] w fun e w' => ∃ v0_ : Value, e = .returned v0_ ∧ Kd.R (Kd.int .i64) 3 w' w.heap.size (fun _ => True) v0_ (solsF fl l) ∧ Below w.heap.size w w' := by
  have HR := Aside0.mk hR
  have HC := Aside0.mk hr
  have HK := Aside0.mk hk
  have HF := Aside0.mk (And.intro hf0 hf1)
  have hm := Kd.C_max hr
  obtain ⟨m, hm1⟩ : ∃ m : Int, m = fl + 1 := ⟨_, rfl⟩
  have w1 : IntKind.i64.wrap (fl + 1) = m := by rw [hm1]; exact Hw.wrap_w (by omega) (by omega)
  have HM := Aside0.mk hm1
  clear hR hr hc hk hf0 hf1 hm1
  go_enter Try.func101, Try.ntmps101
  go_wp2
  go_loopg [7, 13] m.toNat (fun n v7 v13 w' => ∃ (i : Int) (xs : List Int), v13 = .int .i64 i ∧ Aside0 (0 ≤ i ∧ i + n = m ∧ xs.length ≤ i) ∧ Aside0 (xs ++ solsFrom fl l n i = solsF fl l) ∧ Aside0 (Kd.R (Kd.int .i64) 3 w' w.heap.size (fun k_ => w.heap.size + 2 ≤ k_) v7 xs) ∧ Aside0 (w'.heap[w.heap.size]? = some (.cells #[.int .i64 fl, .slice Ap np cp] 35 (0, 0))) ∧ Aside0 (w'.heap[w.heap.size + 1]? = some (.cells #[.pointer (some ⟨b, 0, none⟩)] 86 (0, 0))) ∧ Aside0 (Below w.heap.size w w'))
  case atStart =>
    refine ⟨0, [], rfl, ⟨by have := HM.out; have := HF.out; simp; omega⟩, ⟨by unfold solsF; rw [HM.out]; rfl⟩, ⟨?_⟩, ⟨blk_alloc (blk_alloc (blk_new _ _) _) _⟩, ⟨?_⟩, ⟨below_alloc (below_alloc (below_alloc (Below.refl _ _) _) _) _⟩⟩
    · have h_ := Hw.R_empty (Kd.int .i64) 3 ((w.alloc (Obj.cells #[Value.int IntKind.i64 fl, Value.slice Ap np cp] 35)).alloc (Obj.cells #[Value.pointer (some { block := b, off := 0 })] 86)) w.heap.size (fun k_ => w.heap.size + 2 ≤ k_) (by simp only [World.size_alloc]; omega) (by simp only [World.size_alloc]; omega)
      rw [World.size_alloc, World.size_alloc] at h_
      exact h_
    · refine blk_alloc ?_ _
      have h_ := blk_new (w.alloc (Obj.cells #[Value.int IntKind.i64 fl, Value.slice Ap np cp] 35)) (Obj.cells #[Value.pointer (some { block := b, off := 0 })] 86)
      rwa [World.size_alloc] at h_
  case round =>
    obtain ⟨i, xs, rfl, HI, HL, HO, BP, BQ, HB⟩ := hrel
    by_cases hlt : i < m
    · have d1 : decide (i < m) = true := decide_eq_true hlt
      have HLt := Aside0.mk hlt
      obtain ⟨k1, rfl⟩ : ∃ k1, gk = k1 + 1 := ⟨gk - 1, by have := HI.out; omega⟩
      have w2 : IntKind.i64.wrap (i + 1) = i + 1 := Hw.wrap_w (by have := HI.out; omega) (by have := HI.out; have := HM.out; have := HF.out; omega)
      clear hlt
      have HX : Aside0 (Calls Try.prog 81 #[.slice A l.length c, .func (.func 120) #[] #[.pointer (some ⟨w.heap.size + 1, 0, none⟩), .pointer (some ⟨w.heap.size, 0, none⟩), .pointer (some ⟨wr.heap.size, 0, none⟩)]] (wr.alloc (Obj.cells #[Value.int IntKind.i64 i] 3)) fun e w' => e = .returned (.bool (!l.all (fitsB fl i))) ∧ Below (wr.alloc (Obj.cells #[Value.int IntKind.i64 i] 3)).heap.size (wr.alloc (Obj.cells #[Value.int IntKind.i64 i] 3)) w') := ⟨by
        have h_ : (!l.all (fitsB fl i)) = l.any (fun x => !fitsB fl i x) := by rw [← Hw.all_not_any, Bool.not_not]
        rw [h_]
        refine anyClue.calls (fun x => !fitsB fl i x) 120 _ _ A c l _ (Kd.C_alloc (Kd.C_below HC.out HB.out) _) Try.func120 (by kernel_rfl) rfl ?_
        intro x W hx hb
        obtain ⟨cs, q1, q2⟩ := HR.out
        exact solutions1.calls fl i b (w.heap.size + 1) w.heap.size wr.heap.size .nilFunc x W ⟨cs, blk_below (blk_alloc (blk_below q1 HB.out) _) hb, q2⟩ ((blk_cell (blk_below (blk_alloc BQ.out _) hb) 0).trans rfl) ((blk_cell (blk_below (blk_alloc BP.out _) hb) 0).trans rfl) ((blk_cell (blk_below (blk_new _ _) hb) 0).trans rfl) (HK.out x hx) HF.out.1 HF.out.2 HI.out.1 (by have := HLt.out; have := HM.out; omega)⟩
      have hmf : ∀ (fn : Fn) (first cap : Array Value) (w : World), (Instr.makeFunc fn first cap).run Try.prog w = .ok (.func fn first cap) w := fun _ _ _ _ => rfl
      obtain ⟨y, hy⟩ : ∃ y : List Int, y = xs ++ [i] := ⟨_, rfl⟩
      have Ny := Aside0.mk hy
      clear hy
      cases ha : l.all (fitsB fl i) with
      | true =>
        rw [ha] at HX
        have HL2 : Aside0 (y ++ solsFrom fl l k1 (i + 1) = solsF fl l) := ⟨by have h_ := HL.out; rw [solsFrom, if_pos ha] at h_; rw [Ny.out, ← h_]; simp⟩
        clear ha HL
        go_wp2_with (first | (go_at_call 81; refine HX.out.mono ?_; rintro e w2 ⟨rfl, hb2⟩; have hB2 : Below w.heap.size w w2 := (below_alloc HB.out _).trans (hb2.mono (by have := HB.out.size; simp; omega)); have bP := blk_below (blk_alloc BP.out (Obj.cells #[Value.int IntKind.i64 i] 3)) hb2; have bQ := blk_below (blk_alloc BQ.out (Obj.cells #[Value.int IntKind.i64 i] 3)) hb2; have bI := blk_below (blk_new wr (Obj.cells #[Value.int IntKind.i64 i] 3)) hb2; have hO := Kd.R_below (Kd.R_alloc HO.out (Obj.cells #[Value.int IntKind.i64 i] 3)) hb2; have cI := (blk_cell bI 0).trans rfl; clear HO HB BP BQ; have HO := Aside0.mk hO; have HB := Aside0.mk hB2; have BP := Aside0.mk bP; have BQ := Aside0.mk bQ; clear hO hB2 bP bQ bI hb2) | ((with_reducible refine gate_builtin (b := .append) (xs := #[.tmp 20, .tmp 22]) rfl ?_); at_builtin; refine Kd.R_append (Kd.int .i64) (w0 := w) w.heap.size rfl (.tmp 20) (.tmp 22) 55 3 (.int .i64 0) 8 rfl Try.underlying55 info3 rfl (by decide) (by omega) u7 xs i [.int .i64 i] (fun k_ => w.heap.size + 2 ≤ k_) (fun _ => False) rfl rfl ?aP (fun _ hk => hk.elim) ?aF ?aO ?aB ?aS ?aL ?_; (case aP => exact rfl); (case aB => exact (by repeat (first | (with_reducible first | exact HB.out | apply below_alloc | apply pw_below_drewN | apply below_drew1) | exact HB.out))); (case aF => exact (fun k_ hk => by have h_ := blk_lt BQ.out; show w.heap.size + 2 ≤ k_; omega)); (case aO => exact (by (with_reducible repeat (first | apply Kd.R_alloc | apply Kd.R_drewN | apply Kd.R_drew)); exact HO.out)); (case aS => exact (below_size (by repeat (first | (with_reducible first | exact HB.out | apply below_alloc | apply pw_below_drewN | apply below_drew1) | exact HB.out)))); (case aL => have := HI.out; have := HM.out; have := HF.out; have := HLt.out; omega); intro v3 w3 ho hb hg hat; rw [← Ny.out] at ho; have bP := blk_grown BP.out hg (fun h_ => by have h2_ : w.heap.size + 2 ≤ w.heap.size := HO.out.1 _ h_.symm; omega); have bQ := blk_grown BQ.out hg (fun h_ => by have h2_ : w.heap.size + 2 ≤ w.heap.size + 1 := HO.out.1 _ h_.symm; omega); clear HB HO BP BQ; have HB := Aside0.mk hb; have HO := Aside0.mk ho; have BP := Aside0.mk bP; have BQ := Aside0.mk bQ; clear ho hb hg hat bP bQ))
        go_roundg k1
        case measure => omega
        case rel => exact ⟨i + 1, y, rfl, ⟨by have := HI.out; have h_ : y.length = xs.length + 1 := (by rw [Ny.out]; simp); omega⟩, HL2, HO, BP, BQ, HB⟩
      | false =>
        rw [ha] at HX
        have HL2 : Aside0 (xs ++ solsFrom fl l k1 (i + 1) = solsF fl l) := ⟨by have h_ := HL.out; rw [solsFrom, if_neg (by rw [ha]; decide)] at h_; exact h_⟩
        clear ha HL
        go_wp2_with (first | (go_at_call 81; refine HX.out.mono ?_; rintro e w2 ⟨rfl, hb2⟩; have hB2 : Below w.heap.size w w2 := (below_alloc HB.out _).trans (hb2.mono (by have := HB.out.size; simp; omega)); have bP := blk_below (blk_alloc BP.out (Obj.cells #[Value.int IntKind.i64 i] 3)) hb2; have bQ := blk_below (blk_alloc BQ.out (Obj.cells #[Value.int IntKind.i64 i] 3)) hb2; have bI := blk_below (blk_new wr (Obj.cells #[Value.int IntKind.i64 i] 3)) hb2; have hO := Kd.R_below (Kd.R_alloc HO.out (Obj.cells #[Value.int IntKind.i64 i] 3)) hb2; have cI := (blk_cell bI 0).trans rfl; clear HO HB BP BQ; have HO := Aside0.mk hO; have HB := Aside0.mk hB2; have BP := Aside0.mk bP; have BQ := Aside0.mk bQ; clear hO hB2 bP bQ bI hb2))
        go_roundg k1
        case measure => omega
        case rel => exact ⟨i + 1, xs, rfl, ⟨by have := HI.out; omega⟩, HL2, HO, BP, BQ, HB⟩
    · have d1 : decide (i < m) = false := decide_eq_false hlt
      have HL2 : Aside0 (xs = solsF fl l) := ⟨by have := HI.out; rw [← HL.out, show gk = 0 by omega]; simp [solsFrom]⟩
      clear hlt
      go_wp2
      go_ret
      exact ⟨_, rfl, by rw [← HL2.out]; exact Kd.R_mono HO.out (fun _ _ => trivial), HB.out⟩


-- FOR impl.Solutions
-- KIND rounds=0 making=1
-- CALLS impl.IsPuzzle ; (impl.Puzzle).solutions ; impl.newReaches
def impl_Solutions.f (a0_0 : Int) (l0_1 : List S25) : Option (List Int × Bool) := (impl_IsPuzzle.f a0_0 l0_1).bind fun t => if t = true then some (solsF a0_0 l0_1, true) else some ([], false)
theorem isPuzzle_ok {fl : Int} {l : List S25} (h : impl_IsPuzzle.f fl l = some true) : 1 ≤ fl ∧ fl ≤ 40 ∧ l.length ≤ 6 ∧ ∀ x ∈ l, okA fl x.f0 x.f1 := by
  unfold impl_IsPuzzle.f at h
  have h1 := Option.some.inj h
  simp only [Bool.and_eq_true, decide_eq_true_eq, List.all_eq_true] at h1
  obtain ⟨⟨⟨q0, q1⟩, q2⟩, q3⟩ := h1
  refine ⟨q0, q1, q2, fun x hx => ?_⟩
  have h2 := q3 x hx
  exact (isClue_ok (v := x.f2) (by rw [isClue_some]; exact congrArg some h2)).2.2
set_option maxHeartbeats 8000000 in
set_option maxRecDepth 1000000 in
theorem impl_Solutions.calls (a0_0 : Int) (A0_1 : Option Addr) (c0_1 : Nat) (l0_1 : List S25) (r1 : List Int) (r2 : Bool) (w : World) (hr0_1 : Kd.C k25 w A0_1 l0_1.length l0_1) (hc0_1 : l0_1.length ≤ c0_1) (h : impl_Solutions.f a0_0 l0_1 = some (r1, r2)) :
    Calls Try.prog 49 #[.agg #[.int .i64 a0_0, .slice A0_1 l0_1.length c0_1]] w fun e w' => ∃ v0_ : Value, e = .returned (.tuple #[v0_, .bool r2]) ∧ Kd.R (Kd.int .i64) 3 w' w.heap.size (fun _ => True) v0_ r1 ∧ Below w.heap.size w w' := by
  have HB : Aside0 (Below w.heap.size w (w.alloc (Obj.cells #[Value.int IntKind.i64 a0_0, Value.slice A0_1 l0_1.length c0_1] 35))) := ⟨below_alloc (Below.refl _ _) _⟩
  have BK : Aside0 ((w.alloc (Obj.cells #[Value.int IntKind.i64 a0_0, Value.slice A0_1 l0_1.length c0_1] 35)).heap[w.heap.size]? = some (.cells #[Value.int IntKind.i64 a0_0, Value.slice A0_1 l0_1.length c0_1] 35 (0, 0))) := ⟨blk_new _ _⟩
  have HR := Aside0.mk hr0_1
  have HC := Aside0.mk hc0_1
  clear hr0_1 hc0_1
  obtain ⟨q, hq⟩ : ∃ q, impl_IsPuzzle.f a0_0 l0_1 = some q := ⟨_, rfl⟩
  unfold impl_Solutions.f at h
  rw [hq, Option.bind_some] at h
  have HQ := Aside0.mk hq
  cases q with
  | false =>
    rw [if_neg (by decide)] at h
    simp only [Option.some.injEq, Prod.mk.injEq] at h
    obtain ⟨rfl, rfl⟩ := h
    clear hq
    go_enter Try.func49, Try.ntmps49
    go_wp2_with (first | (go_at_call 25; refine (impl_IsPuzzle.calls _ _ _ _ _ _ (Kd.C_below HR.out HB.out) HC.out HQ.out).mono ?_; rintro e w1 ⟨rfl, hb⟩; have HB1 := Aside0.mk (below_step HB.out hb); clear hb))
    go_ret2
    exact ⟨_, rfl, Kd.R_nil _ _ _ _ _, HB1.out⟩
  | true =>
    rw [if_pos rfl] at h
    simp only [Option.some.injEq, Prod.mk.injEq] at h
    obtain ⟨rfl, rfl⟩ := h
    have HO := Aside0.mk (isPuzzle_ok hq)
    clear hq
    go_enter Try.func49, Try.ntmps49
    go_wp2_with (first | (go_at_call 25; refine (impl_IsPuzzle.calls _ _ _ _ _ _ (Kd.C_below HR.out HB.out) HC.out HQ.out).mono ?_; rintro e w1 ⟨rfl, hb⟩; have HB1 := Aside0.mk (below_step HB.out hb); have BK1 := Aside0.mk (blk_below BK.out hb); have c10 := (blk_cell BK1.out 0).trans rfl; have c11 := (blk_cell BK1.out 1).trans rfl; clear hb))
    go_region_held3 (fun w' => w'.cell? ⟨w.heap.size, 0, none⟩ = some (.int .i64 a0_0) ∧ w'.cell? ⟨w.heap.size, 1, none⟩ = some (.slice A0_1 l0_1.length c0_1)) (first | exact ⟨c10, c11⟩ | exact ⟨c30, c31⟩ | exact ⟨c40, c41⟩) (first | (go_at_call 86; refine (newReaches.calls _).mono ?_; rintro e w3 ⟨rfl, hr, hb⟩; have HR3 := Aside0.mk hr; have HB3 : Aside0 (Below w.heap.size w w3) := ⟨below_step (below_drew1 HB1.out) hb⟩; have BK3 := Aside0.mk (blk_below (w := w1.drew) (blk_drew BK1.out) hb); have c30 := (blk_cell BK3.out 0).trans rfl; have c31 := (blk_cell BK3.out 1).trans rfl; clear hr hb) | (go_at_call 101; refine (solutions.calls w3 _ a0_0 A0_1 A0_1 l0_1.length c0_1 c0_1 l0_1 HR3.out (Kd.C_below HR.out HB3.out) HC.out (by have := HO.out; omega) (by have := HO.out; omega) HO.out.2.2.2).mono ?_; rintro e w4 ⟨v4, rfl, ho4, hb⟩; have HO4 := Aside0.mk (Kd.R_lower ho4 (below_size HB3.out)); have HB4 := Aside0.mk (below_step HB3.out hb); have BK4 := Aside0.mk (blk_below BK3.out hb); have c40 := (blk_cell BK4.out 0).trans rfl; have c41 := (blk_cell BK4.out 1).trans rfl; clear hb ho4))
    all_goals go_wp2
    all_goals
      go_ret2
      exact ⟨_, rfl, HO4.out, HB4.out⟩


-- FOR impl.BestClue
-- KIND rounds=0 making=1
-- CALLS impl.Solutions ; (impl.Puzzle).solutions ; impl.newReaches ; impl.IsPuzzle
-- USES info impl.Clue
def bestFrom (fl : Int) : List S25 → Int → Int → Int → Int
  | [], _, b, _ => b
  | x :: xs, k, b, m => if ((solsF fl [x]).length : Int) < m then bestFrom fl xs (k + 1) k (solsF fl [x]).length else bestFrom fl xs (k + 1) b m
def impl_BestClue.f (a0_0 : Int) (l0_1 : List S25) : Option (Int × Bool) := (impl_IsPuzzle.f a0_0 l0_1).bind fun t => if t = true then (if l0_1.length = 0 then some (0, false) else some (bestFrom a0_0 l0_1 0 0 1125899906842624, true)) else some (0, false)
set_option maxHeartbeats 8000000 in
set_option maxRecDepth 1000000 in
theorem impl_BestClue.calls (a0_0 : Int) (A0_1 : Option Addr) (c0_1 : Nat) (l0_1 : List S25) (r1 : Int) (r2 : Bool) (w : World) (hr0_1 : Kd.C k25 w A0_1 l0_1.length l0_1) (hc0_1 : l0_1.length ≤ c0_1) (h : impl_BestClue.f a0_0 l0_1 = some (r1, r2)) :
    Calls Try.prog 45 #[.agg #[.int .i64 a0_0, .slice A0_1 l0_1.length c0_1]] w fun e w' => e = .returned (.tuple #[.int .i64 r1, .bool r2]) ∧ Below w.heap.size w w' := by
  have HB : Aside0 (Below w.heap.size w (w.alloc (Obj.cells #[Value.int IntKind.i64 a0_0, Value.slice A0_1 l0_1.length c0_1] 35))) := ⟨below_alloc (Below.refl _ _) _⟩
  have BK : Aside0 ((w.alloc (Obj.cells #[Value.int IntKind.i64 a0_0, Value.slice A0_1 l0_1.length c0_1] 35)).heap[w.heap.size]? = some (.cells #[Value.int IntKind.i64 a0_0, Value.slice A0_1 l0_1.length c0_1] 35 (0, 0))) := ⟨blk_new _ _⟩
  have HR := Aside0.mk hr0_1
  have HC := Aside0.mk hc0_1
  clear hr0_1 hc0_1
  obtain ⟨q, hq⟩ : ∃ q, impl_IsPuzzle.f a0_0 l0_1 = some q := ⟨_, rfl⟩
  unfold impl_BestClue.f at h
  rw [hq, Option.bind_some] at h
  have HQ := Aside0.mk hq
  cases q with
  | false =>
    rw [if_neg (by decide)] at h
    simp only [Option.some.injEq, Prod.mk.injEq] at h
    obtain ⟨rfl, rfl⟩ := h
    clear hq
    go_enter Try.func45, Try.ntmps45
    go_wp2_with (first | (go_at_call 25; refine (impl_IsPuzzle.calls _ _ _ _ _ _ (Kd.C_below HR.out HB.out) HC.out HQ.out).mono ?_; rintro e w1 ⟨rfl, hb⟩; have HB1 := Aside0.mk (below_step HB.out hb); clear hb))
    go_ret2
    exact ⟨rfl, HB1.out⟩
  | true =>
    rw [if_pos rfl] at h
    have HO := Aside0.mk (isPuzzle_ok hq)
    clear hq
    by_cases hl : l0_1.length = 0
    · rw [if_pos hl] at h
      simp only [Option.some.injEq, Prod.mk.injEq] at h
      obtain ⟨rfl, rfl⟩ := h
      obtain rfl := List.eq_nil_of_length_eq_zero hl
      clear hl
      go_enter Try.func45, Try.ntmps45
      go_wp2_with (first | (go_at_call 25; refine (impl_IsPuzzle.calls _ _ _ _ _ _ (Kd.C_below HR.out HB.out) HC.out HQ.out).mono ?_; rintro e w1 ⟨rfl, hb⟩; have HB1 := Aside0.mk (below_step HB.out hb); have BK1 := Aside0.mk (blk_below BK.out hb); have c10 := (blk_cell BK1.out 0).trans rfl; have c11 := (blk_cell BK1.out 1).trans rfl; clear hb))
      go_ret2
      exact ⟨rfl, HB1.out⟩
    · rw [if_neg hl] at h
      simp only [Option.some.injEq, Prod.mk.injEq] at h
      obtain ⟨hr1, rfl⟩ := h
      have HR1 := Aside0.mk hr1
      have d0 : ((l0_1.length : Int) == 0) = false := beq_eq_false_iff_ne.2 (by omega)
      obtain ⟨N, hN⟩ : ∃ N, N = l0_1.length := ⟨_, rfl⟩
      have HN := Aside0.mk hN
      have HLp : Aside0 (l0_1.length ≠ 0) := ⟨hl⟩
      clear hr1 hl hN
      go_enter Try.func45, Try.ntmps45
      go_wp2_with (first | (go_at_call 25; refine (impl_IsPuzzle.calls _ _ _ _ _ _ (Kd.C_below HR.out HB.out) HC.out HQ.out).mono ?_; rintro e w1 ⟨rfl, hb⟩; have HB1 := Aside0.mk (below_step HB.out hb); have BK1 := Aside0.mk (blk_below BK.out hb); have c10 := (blk_cell BK1.out 0).trans rfl; have c11 := (blk_cell BK1.out 1).trans rfl; clear hb) | (go_at_call 86; refine (newReaches.calls _).mono ?_; rintro e w3 ⟨rfl, hr, hb⟩; have HR3 := Aside0.mk hr; have HB3 := Aside0.mk (below_step HB1.out hb); have BK3 := Aside0.mk (blk_below BK1.out hb); have c30 := (blk_cell BK3.out 0).trans rfl; have c31 := (blk_cell BK3.out 1).trans rfl; clear hr hb c10 c11))
      go_loopg [5, 6, 22] l0_1.length (fun n v5 v6 v22 w' => ∃ b m i : Int, v5 = .int .i64 b ∧ v6 = .int .i64 m ∧ v22 = .int .i64 i ∧ Aside0 (0 ≤ i ∧ i + n = l0_1.length) ∧ Aside0 (bestFrom a0_0 (l0_1.drop i.toNat) i b m = r1) ∧ Aside0 (w'.heap[w.heap.size]? = some (.cells #[.int .i64 a0_0, .slice A0_1 l0_1.length c0_1] 35 (0, 0))) ∧ Aside0 (Rch w' w1.heap.size) ∧ Aside0 (Below w.heap.size w w'))
      case atStart => exact ⟨0, 1125899906842624, 0, rfl, rfl, rfl, ⟨by omega⟩, ⟨by simpa using HR1.out⟩, BK3, HR3, HB3⟩
      case round =>
        clear c30 c31
        obtain ⟨b, m, i, rfl, rfl, rfl, HI, HL, BP, HRc, HBr⟩ := hrel
        have c0 := (blk_cell BP.out 0).trans rfl
        have c1 := (blk_cell BP.out 1).trans rfl
        by_cases hlt : i < (l0_1.length : Int)
        · have d1 : decide (i < (l0_1.length : Int)) = true := decide_eq_true hlt
          have HLt := Aside0.mk hlt
          obtain ⟨k1, rfl⟩ : ∃ k1, gk = k1 + 1 := ⟨gk - 1, by have := HI.out; omega⟩
          obtain ⟨j, hj⟩ : ∃ j : Int, j = i + 1 := ⟨_, rfl⟩
          have w2 : IntKind.i64.wrap (i + 1) = j := by rw [hj]; exact Hw.wrap_w (by have := HI.out; omega) (by have := HO.out; have := HI.out; omega)
          obtain ⟨i0_, hi0, _, hsz, _⟩ := info_parts info25
          obtain ⟨y, hy⟩ : ∃ y : List S25, y = (l0_1.take j.toNat).drop i.toNat := ⟨_, rfl⟩
          have hi0' := HI.out
          have hcut := cut_mid (P := Try.prog) 33 25 .i64 .i64 Try.underlying33 hi0 3 hsz A0_1 l0_1.length c0_1 i j (by omega) (by omega) (by omega) HC.out
          have hr20 := Kd.C_mid (lo := i.toNat) (hi := j.toNat) (c := c0_1) (Kd.C_below HR.out HBr.out) (by omega) (by omega) HC.out
          obtain ⟨A2, hA2⟩ : ∃ A1, A1 = (if c0_1 = i.toNat then A0_1 else (A0_1 : Option Addr).map (·.add (i.toNat * 3))) := ⟨_, rfl⟩
          obtain ⟨c2, hc2⟩ : ∃ c1, c1 = c0_1 - i.toNat := ⟨_, rfl⟩
          have hyl : y.length = j.toNat - i.toNat := by rw [hy, List.length_drop, List.length_take]; omega
          rw [show (l0_1.take j.toNat).drop i.toNat = y from hy.symm] at hr20
          replace hr20 : Kd.C k25 wr A2 y.length y := by rw [hA2]; exact hr20
          rw [← hyl, ← hA2, ← hc2] at hcut
          have hlt' : i.toNat < l0_1.length := by omega
          have hy1 : y = [l0_1[i.toNat]] := by
            rw [hy, show j.toNat = i.toNat + 1 by omega, List.drop_take, show i.toNat + 1 - i.toNat = 1 by omega, List.drop_eq_getElem_cons hlt']
            rfl
          have HY := Aside0.mk hr20
          have HYc : Aside0 (y.length ≤ c2) := ⟨by rw [hyl, hc2]; have := HC.out; omega⟩
          have HYm : Aside0 (∀ x ∈ y, okA a0_0 x.f0 x.f1) := ⟨fun x hx => HO.out.2.2.2 x (by rw [hy1] at hx; rw [List.mem_singleton.1 hx]; exact List.getElem_mem _)⟩
          obtain ⟨z, hz⟩ : ∃ z : Int, z = ((solsF a0_0 y).length : Int) := ⟨_, rfl⟩
          have HL2 : Aside0 ((if z < m then bestFrom a0_0 (l0_1.drop j.toNat) j i z else bestFrom a0_0 (l0_1.drop j.toNat) j b m) = r1) := ⟨by
            have h_ := HL.out
            rw [List.drop_eq_getElem_cons hlt', bestFrom, ← hy1, ← hz, ← hj, show i.toNat + 1 = j.toNat by omega] at h_
            exact h_⟩
          have HJ := Aside0.mk hj
          have hz' := hz.symm
          clear hj hy hr20 hA2 hc2 hyl hy1 hlt' hi0' hlt hz HL
          by_cases hc : z < m
          · have d2 : decide (z < m) = true := decide_eq_true hc
            rw [if_pos hc] at HL2
            clear hc
            go_wp2
            go_region_held3 (fun w' => w'.cell? ⟨w.heap.size, 0, none⟩ = some (.int .i64 a0_0) ∧ w'.cell? ⟨w.heap.size, 1, none⟩ = some (.slice A0_1 l0_1.length c0_1)) (first | exact ⟨c0, c1⟩ | exact ⟨c40, c41⟩) (first | (go_at_call 101; refine (solutions.calls wr.drew w1.heap.size a0_0 A0_1 A2 l0_1.length c0_1 c2 y (show Rch wr.drew _ from HRc.out) (Kd.C_below HY.out (below_drew1 (Below.refl _ _))) HYc.out (by have := HO.out; omega) (by have := HO.out; omega) HYm.out).mono ?_; rintro e w4 ⟨v4, rfl, ho4, hb⟩; obtain ⟨A4, c4, rfl⟩ := Kd.R_slice ho4; have HB4 := Aside0.mk (below_step (below_drew1 HBr.out) hb); have BK4 := Aside0.mk (blk_below (w := wr.drew) (blk_drew BP.out) hb); have HR4 : Aside0 (Rch w4 w1.heap.size) := ⟨by obtain ⟨cs, p1, p2⟩ := HRc.out; exact ⟨cs, blk_below (w := wr.drew) (blk_drew p1) hb, p2⟩⟩; have c40 := (blk_cell BK4.out 0).trans rfl; have c41 := (blk_cell BK4.out 1).trans rfl; clear hb ho4))
            all_goals go_wp2
            all_goals
              go_roundg k1
              case measure => omega
              case rel => exact ⟨i, z, j, rfl, rfl, rfl, ⟨by have := HI.out; have := HJ.out; omega⟩, HL2, BK4, HR4, HB4⟩
          · have d2 : decide (z < m) = false := decide_eq_false hc
            rw [if_neg hc] at HL2
            clear hc
            go_wp2
            go_region_held3 (fun w' => w'.cell? ⟨w.heap.size, 0, none⟩ = some (.int .i64 a0_0) ∧ w'.cell? ⟨w.heap.size, 1, none⟩ = some (.slice A0_1 l0_1.length c0_1)) (first | exact ⟨c0, c1⟩ | exact ⟨c40, c41⟩) (first | (go_at_call 101; refine (solutions.calls wr.drew w1.heap.size a0_0 A0_1 A2 l0_1.length c0_1 c2 y (show Rch wr.drew _ from HRc.out) (Kd.C_below HY.out (below_drew1 (Below.refl _ _))) HYc.out (by have := HO.out; omega) (by have := HO.out; omega) HYm.out).mono ?_; rintro e w4 ⟨v4, rfl, ho4, hb⟩; obtain ⟨A4, c4, rfl⟩ := Kd.R_slice ho4; have HB4 := Aside0.mk (below_step (below_drew1 HBr.out) hb); have BK4 := Aside0.mk (blk_below (w := wr.drew) (blk_drew BP.out) hb); have HR4 : Aside0 (Rch w4 w1.heap.size) := ⟨by obtain ⟨cs, p1, p2⟩ := HRc.out; exact ⟨cs, blk_below (w := wr.drew) (blk_drew p1) hb, p2⟩⟩; have c40 := (blk_cell BK4.out 0).trans rfl; have c41 := (blk_cell BK4.out 1).trans rfl; clear hb ho4))
            all_goals go_wp2
            all_goals
              go_roundg k1
              case measure => omega
              case rel => exact ⟨b, m, j, rfl, rfl, rfl, ⟨by have := HI.out; have := HJ.out; omega⟩, HL2, BK4, HR4, HB4⟩
        · have d1 : decide (i < (l0_1.length : Int)) = false := decide_eq_false hlt
          have HL2 : Aside0 (b = r1) := ⟨by have h_ := HL.out; rw [List.drop_of_length_le (by have := HI.out; omega), bestFrom] at h_; exact h_⟩
          clear hlt
          obtain rfl := HL2.out
          go_wp2
          go_ret2
          exact ⟨rfl, HBr.out⟩


-- FOR laws.FnExactBestClue
set_option maxHeartbeats 8000000 in
set_option maxRecDepth 100000 in
theorem hand_FnExactBestClue (k : Nat) (a0_0 : Int) (A0_1 : Option Addr) (c0_1 : Nat) (l0_1 : List S23) (w : World) (hr0_1 : Kd.C k23 w A0_1 l0_1.length l0_1) (hc0_1 : l0_1.length ≤ c0_1)
    (F F' L : List S25) (t : Int) (r1 : Int) (r2 : Bool) (s : Int) (hs : laws_szPuzzle.f a0_0 l0_1 1000000 = some s) (hs0 : 0 ≤ s)
    (hF : full_toClueS.f k l0_1 false = some F) (hL : F.take l0_1.length = L) (hLl : L.length = l0_1.length) (hF' : full_toClueS.f k l0_1 true = some F') (hF2 : l0_1.length ≠ 0 → F' = F) (hF0 : l0_1.length = 0 → F' = [])
    (ht : laws_roomBehind.f (l0_1.length : Int) = some t) (hn : wrap64 ((l0_1.length : Int) + t) = (F.length : Int)) (he : laws_eqClueS.f k F F = some true)
    (h1 : spec_BestClue.f k a0_0 L = some (r1, r2)) (h2 : impl_BestClue.f a0_0 L = some (r1, r2)) :
    Calls Try.prog 12 #[.agg #[.int .i64 a0_0, .slice A0_1 l0_1.length c0_1]] w fun e w' => e = .returned (.bool true) ∧ Below w.heap.size w w' := by
  have HR := Aside0.mk hr0_1
  have HC := Aside0.mk hc0_1
  have H0 := Aside0.mk hs
  have hs1 : decide (s < 0) = false := decide_eq_false (by omega)
  have HF := Aside0.mk hF
  have HF' := Aside0.mk hF'
  have HT := Aside0.mk ht
  have HN := Aside0.mk hn
  have HE := Aside0.mk he
  have H1 := Aside0.mk h1
  have H2 := Aside0.mk h2
  have HF2 := Aside0.mk hF2
  have HF0 := Aside0.mk hF0
  have HL := Aside0.mk hL
  have HLl := Aside0.mk hLl
  clear hr0_1 hc0_1 hs hF hF' ht hn he h1 h2 hF2 hF0 hL hLl hs0
  go_enter Try.func12, Try.ntmps12
  go_wp2_with fail
  have HB : Aside0 (Below w.heap.size w (w.alloc (.cells #[.int .i64 a0_0, .slice A0_1 l0_1.length c0_1] 30 (0, 0)))) := ⟨below_alloc (Below.refl _ _) _⟩
  have BK : Aside0 ((w.alloc (.cells #[.int .i64 a0_0, .slice A0_1 l0_1.length c0_1] 30 (0, 0))).heap[w.heap.size]? = some (.cells #[.int .i64 a0_0, .slice A0_1 l0_1.length c0_1] 30 (0, 0))) := ⟨blk_new _ _⟩
  refine (laws_szPuzzle.calls a0_0 _ _ l0_1 _ _ _ (Kd.C_below HR.out HB.out) HC.out H0.out).mono ?_
  rintro e w1 ⟨rfl, hb⟩
  have HB1 : Aside0 (Below w.heap.size w w1) := ⟨below_step HB.out hb⟩
  have BK1 : Aside0 (w1.heap[w.heap.size]? = some (.cells #[.int .i64 a0_0, .slice A0_1 l0_1.length c0_1] 30 (0, 0))) := ⟨blk_below BK.out hb⟩
  clear HB BK hb
  have c10 := (blk_cell BK1.out 0).trans rfl
  have c11 := (blk_cell BK1.out 1).trans rfl
  go_wp2_with fail
  refine (full_toPuzzle k a0_0 _ _ l0_1 false F w1 (Kd.C_below HR.out HB1.out) HC.out HF.out).mono ?_
  rintro e w2 hp
  obtain ⟨A2, n2, c2, rfl, hR2, hn2, hb⟩ := hp
  obtain rfl : n2 = L.length := by rcases hn2 with h_ | ⟨h_, h2_⟩; exact h_.trans HLl.out.symm; exact h2_.trans (by rw [← HL.out, h_]; simp)
  have HB2 : Aside0 (Below w.heap.size w w2) := ⟨below_step HB1.out hb⟩
  have BK2 : Aside0 (w2.heap[w.heap.size]? = some (.cells #[.int .i64 a0_0, .slice A0_1 l0_1.length c0_1] 30 (0, 0))) := ⟨blk_below BK1.out hb⟩
  have HL2 : Aside0 (L.length ≤ F.length) := ⟨by rw [← HL.out, List.length_take]; omega⟩
  have hq := Kd.R_reads' hR2
  have HC2 : Aside0 (Kd.C k25 w2 A2 L.length L) := ⟨by have h_ := Hw.C_take hq.2.2 L.length HL2.out; rw [HLl.out, HL.out, ← HLl.out] at h_; exact h_⟩
  have HC2' : Aside0 (L.length ≤ c2) := ⟨Nat.le_trans HL2.out hq.2.1⟩
  clear HB1 BK1 hb c10 c11 hR2 hn2 hq
  go_wp2_with fail
  refine (spec_BestClue.calls k a0_0 _ _ L r1 r2 w2 HC2.out HC2'.out H1.out).mono ?_
  rintro e w3 ⟨rfl, hb⟩
  have HB3 : Aside0 (Below w.heap.size w w3) := ⟨below_step HB2.out hb⟩
  have BK3 : Aside0 (w3.heap[w.heap.size]? = some (.cells #[.int .i64 a0_0, .slice A0_1 l0_1.length c0_1] 30 (0, 0))) := ⟨blk_below BK2.out hb⟩
  clear HB2 BK2 hb HC2 HC2'
  have c30 := (blk_cell BK3.out 0).trans rfl
  have c31 := (blk_cell BK3.out 1).trans rfl
  go_wp2_with fail
  refine (full_toPuzzle k a0_0 _ _ l0_1 false F w3 (Kd.C_below HR.out HB3.out) HC.out HF.out).mono ?_
  rintro e w4 hp
  obtain ⟨A4, n4, c4, rfl, hR4, hn4, hb⟩ := hp
  obtain rfl : n4 = L.length := by rcases hn4 with h_ | ⟨h_, h2_⟩; exact h_.trans HLl.out.symm; exact h2_.trans (by rw [← HL.out, h_]; simp)
  have HB4 : Aside0 (Below w.heap.size w w4) := ⟨below_step HB3.out hb⟩
  have BK4 : Aside0 (w4.heap[w.heap.size]? = some (.cells #[.int .i64 a0_0, .slice A0_1 l0_1.length c0_1] 30 (0, 0))) := ⟨blk_below BK3.out hb⟩
  have hq := Kd.R_reads' hR4
  have HC4 : Aside0 (Kd.C k25 w4 A4 F.length F) := ⟨hq.2.2⟩
  have HC4' : Aside0 (F.length ≤ c4) := ⟨hq.2.1⟩
  clear HB3 BK3 hb c30 c31 hR4 hn4 hq
  go_wp2_with fail
  have HB4' : Aside0 (Below w.heap.size w (w4.alloc (.cells #[.int .i64 a0_0, .slice A4 L.length c4] 35 (0, 0)))) := ⟨below_alloc HB4.out _⟩
  have BX : Aside0 ((w4.alloc (.cells #[.int .i64 a0_0, .slice A4 L.length c4] 35 (0, 0))).heap[w4.heap.size]? = some (.cells #[.int .i64 a0_0, .slice A4 L.length c4] 35 (0, 0))) := ⟨blk_new _ _⟩
  have HC4a : Aside0 (Kd.C k25 (w4.alloc (.cells #[.int .i64 a0_0, .slice A4 L.length c4] 35 (0, 0))) A4 F.length F) := ⟨Kd.C_alloc HC4.out _⟩
  have BK4' : Aside0 ((w4.alloc (.cells #[.int .i64 a0_0, .slice A4 L.length c4] 35 (0, 0))).heap[w.heap.size]? = some (.cells #[.int .i64 a0_0, .slice A0_1 l0_1.length c0_1] 30 (0, 0))) := ⟨blk_alloc BK4.out _⟩
  have HC4L : Aside0 (Kd.C k25 (w4.alloc (.cells #[.int .i64 a0_0, .slice A4 L.length c4] 35 (0, 0))) A4 L.length L) := ⟨by have h_ := Hw.C_take HC4a.out L.length HL2.out; rw [HLl.out, HL.out, ← HLl.out] at h_; exact h_⟩
  refine (impl_BestClue.calls a0_0 _ _ L r1 r2 _ HC4L.out (Nat.le_trans HL2.out HC4'.out) H2.out).mono ?_
  rintro e w5 ⟨rfl, hb⟩
  have HB5 : Aside0 (Below w.heap.size w w5) := ⟨below_step HB4'.out hb⟩
  have BK5 : Aside0 (w5.heap[w.heap.size]? = some (.cells #[.int .i64 a0_0, .slice A0_1 l0_1.length c0_1] 30 (0, 0))) := ⟨blk_below BK4'.out hb⟩
  have BX5 : Aside0 (w5.heap[w4.heap.size]? = some (.cells #[.int .i64 a0_0, .slice A4 L.length c4] 35 (0, 0))) := ⟨blk_below BX.out hb⟩
  have HC5 : Aside0 (Kd.C k25 w5 A4 F.length F) := ⟨Kd.C_below HC4a.out hb⟩
  clear HB4 HB4' BX HC4 HC4a BK4 BK4' HC4L hb
  have hr1 : (r1 != r1) = false := by simp
  have hr2 : (r2 != r2) = false := by simp
  have c50 := (blk_cell BK5.out 0).trans rfl
  have c51 := (blk_cell BK5.out 1).trans rfl
  have d50 := (blk_cell BX5.out 0).trans rfl
  have d51 := (blk_cell BX5.out 1).trans rfl
  go_wp2_with fail
  have HB5' : Aside0 (∀ W, Below w5.heap.size w5 W → Below w.heap.size w W) := ⟨fun W h_ => below_step HB5.out h_⟩
  go_region_held3 (fun w' => w'.cell? ⟨w.heap.size, 0, none⟩ = some (.int .i64 a0_0) ∧ w'.cell? ⟨w.heap.size, 1, none⟩ = some (.slice A0_1 l0_1.length c0_1) ∧ w'.cell? ⟨w4.heap.size, 0, none⟩ = some (.int .i64 a0_0) ∧ w'.cell? ⟨w4.heap.size, 1, none⟩ = some (.slice A4 L.length c4)) (first | exact ⟨c50, c51, d50, d51⟩ | exact ⟨c60, c61, d60, d61⟩ | exact ⟨c70, c71, d70, d71⟩) (first
    | (go_at_call 24; refine (full_toPuzzle k a0_0 _ _ l0_1 false F _ (Kd.C_below HR.out (below_drew1 HB5.out)) HC.out HF.out).mono ?_; rintro e w6 hp; obtain ⟨A6, n6, c6, rfl, hR6, hn6, hb⟩ := hp; obtain rfl : n6 = L.length := (by rcases hn6 with h_ | ⟨h_, h2_⟩; exact h_.trans HLl.out.symm; exact h2_.trans (by rw [← HL.out, h_]; simp)); have hq6 := Kd.R_reads' hR6; have hb6 : Below w5.heap.size w5 w6 := below_step (below_drew1 (Below.refl _ _)) hb; have HB6 : Aside0 (Below w.heap.size w w6) := ⟨HB5'.out _ hb6⟩; have BK6 : Aside0 (w6.heap[w.heap.size]? = some (.cells #[.int .i64 a0_0, .slice A0_1 l0_1.length c0_1] 30 (0, 0))) := ⟨blk_below BK5.out hb6⟩; have BX6 : Aside0 (w6.heap[w4.heap.size]? = some (.cells #[.int .i64 a0_0, .slice A4 L.length c4] 35 (0, 0))) := ⟨blk_below BX5.out hb6⟩; have HC6 : Aside0 (Kd.C k25 w6 A4 F.length F) := ⟨Kd.C_below HC5.out hb6⟩; have HC6' : Aside0 (Kd.C k25 w6 A6 F.length F) := ⟨hq6.2.2⟩; have HC6c : Aside0 (F.length ≤ c6) := ⟨hq6.2.1⟩; have c60 := (blk_cell BK6.out 0).trans rfl; have c61 := (blk_cell BK6.out 1).trans rfl; have d60 := (blk_cell BX6.out 0).trans rfl; have d61 := (blk_cell BX6.out 1).trans rfl; clear hb hb6 hq6 hR6 hn6)
    | (go_at_call 26; refine (intact_Puzzle k a0_0 F A4 A6 L.length c4 c6 t w6 (by rw [HLl.out]; exact HT.out) (by rw [HLl.out]; exact HN.out) HC4'.out HC6c.out HC6.out HC6'.out HE.out).mono ?_; rintro e w7 ⟨rfl, hb⟩; have HB7 : Aside0 (Below w.heap.size w w7) := ⟨below_step HB6.out hb⟩; have BK7 : Aside0 (w7.heap[w.heap.size]? = some (.cells #[.int .i64 a0_0, .slice A0_1 l0_1.length c0_1] 30 (0, 0))) := ⟨blk_below BK6.out hb⟩; have BX7 : Aside0 (w7.heap[w4.heap.size]? = some (.cells #[.int .i64 a0_0, .slice A4 L.length c4] 35 (0, 0))) := ⟨blk_below BX6.out hb⟩; have c70 := (blk_cell BK7.out 0).trans rfl; have c71 := (blk_cell BK7.out 1).trans rfl; have d70 := (blk_cell BX7.out 0).trans rfl; have d71 := (blk_cell BX7.out 1).trans rfl; clear hb))
  clear c50 c51 d50 d51
  go_wp2_with fail
  refine (full_toPuzzle k a0_0 _ _ l0_1 true F' w7 (Kd.C_below HR.out HB7.out) HC.out HF'.out).mono ?_
  rintro e w8 hp
  obtain ⟨A8, n8, c8, rfl, hR8, hn8, hb⟩ := hp
  have hq8 := Kd.R_reads' hR8
  have H8 : n8 = L.length ∧ Kd.C k25 w8 A8 L.length L ∧ L.length ≤ c8 := by
    by_cases h0 : l0_1.length = 0
    · have h_ := HF0.out h0
      subst h_
      have hLn : L = [] := List.eq_nil_of_length_eq_zero (HLl.out.trans h0)
      subst hLn
      refine ⟨?_, hq8.2.2, Nat.zero_le _⟩
      rcases hn8 with h_ | ⟨_, h2_⟩
      · rw [h_, h0]; rfl
      · exact h2_
    · have h_ := HF2.out h0
      subst h_
      refine ⟨?_, ?_, Nat.le_trans HL2.out hq8.2.1⟩
      · rcases hn8 with h_ | ⟨h_, h2_⟩
        · exact h_.trans HLl.out.symm
        · exact h2_.trans (by rw [← HL.out, h_]; simp)
      · have h_ := Hw.C_take hq8.2.2 L.length HL2.out
        rw [HLl.out, HL.out, ← HLl.out] at h_
        exact h_
  obtain ⟨rfl, h81, h82⟩ := H8
  have HB8 : Aside0 (Below w.heap.size w w8) := ⟨below_step HB7.out hb⟩
  have H81 := Aside0.mk h81
  have H82 := Aside0.mk h82
  clear hb hR8 hn8 hq8 h81 h82
  go_wp2_with fail
  refine (impl_BestClue.calls a0_0 _ _ L r1 r2 w8 H81.out H82.out H2.out).mono ?_
  rintro e w9 ⟨rfl, hb⟩
  have HB9 : Aside0 (Below w.heap.size w w9) := ⟨below_step HB8.out hb⟩
  clear hb
  go_wp2
  go_ret
  exact ⟨rfl, HB9.out⟩
set_option maxHeartbeats 8000000 in
set_option maxRecDepth 100000 in
theorem big_FnExactBestClue (a0_0 : Int) (A0_1 : Option Addr) (c0_1 : Nat) (l0_1 : List S23) (w : World) (hr0_1 : Kd.C k23 w A0_1 l0_1.length l0_1) (hc0_1 : l0_1.length ≤ c0_1)
    (s : Int) (hs : laws_szPuzzle.f a0_0 l0_1 1000000 = some s) (hs0 : s < 0) :
    Calls Try.prog 12 #[.agg #[.int .i64 a0_0, .slice A0_1 l0_1.length c0_1]] w fun e w' => e = .returned (.bool true) ∧ Below w.heap.size w w' := by
  have HR := Aside0.mk hr0_1
  have HC := Aside0.mk hc0_1
  have H0 := Aside0.mk hs
  have hs1 : decide (s < 0) = true := decide_eq_true hs0
  clear hr0_1 hc0_1 hs hs0
  go_enter Try.func12, Try.ntmps12
  go_wp2_with fail
  have HB : Aside0 (Below w.heap.size w (w.alloc (.cells #[.int .i64 a0_0, .slice A0_1 l0_1.length c0_1] 30 (0, 0)))) := ⟨below_alloc (Below.refl _ _) _⟩
  refine (laws_szPuzzle.calls a0_0 _ _ l0_1 _ _ _ (Kd.C_below HR.out HB.out) HC.out H0.out).mono ?_
  rintro e w1 ⟨rfl, hb⟩
  have HB1 : Aside0 (Below w.heap.size w w1) := ⟨below_step HB.out hb⟩
  clear HB hb
  go_wp2
  go_ret
  exact ⟨rfl, HB1.out⟩


end Go.Proofs.Ytbkplokoomodcaa.B
