/- Plain Lean functions with the answers of Go functions, and proofs of it: printed by a program of this session (pr.py) over the kit's print, with hand-written parts. -/
import Derived.Test.YtbkplokoomodcaaHx0
import Derived.Test.YtbkplokoomodcaaHx6
import Derived.Test.YtbkplokoomodcaaHx7
namespace Go.Proofs.Ytbkplokoomodcaa.H
open Go.RowKit Go.Proofs.YtbkplokoomodcaaW.PrintWords Go.Proofs.YtbkplokoomodcaaW.PrintLast Go.Proofs.YtbkplokoomodcaaW.PrintMore
attribute [local go_sem] max2_int min2_int max_two min_two max_three min_three max_four min_four   -- for this text's walks alone
set_option linter.unusedVariables false
set_option linter.unusedSimpArgs false

-- FOR impl.play
-- CALLS (*impl.reaches).best ; impl.countBroken
def playL (br : Int) : Nat → Int → Int → Int → List S121
  | 0, _, _, _ => []
  | n + 1, e, lo, fl => if 0 < fl then ⟨lo + bestF e.toNat fl, decide (br < lo + bestF e.toNat fl)⟩ :: (if br < lo + bestF e.toNat fl then playL br n (e - 1) lo (bestF e.toNat fl - 1) else playL br n e (lo + bestF e.toNat fl) (fl - bestF e.toNat fl)) else []
theorem playL_done (br : Int) (n : Nat) (e lo fl : Int) (h : ¬ 0 < fl) : playL br n e lo fl = [] := by
  cases n with
  | zero => rfl
  | succ n => exact if_neg h
theorem bestF_lo (e : Nat) (fl : Int) : 1 ≤ bestF e fl := by unfold bestF; omega
theorem bestF_hi (e : Nat) (fl : Int) (h : 0 < fl) : bestF e fl ≤ fl := by have := reachAt_lo (few e fl - 1) e; unfold bestF; omega
theorem reachAt_one (t : Nat) (h : t ≤ 1000) : reachAt t 1 = t := by
  induction t with
  | zero => rfl
  | succ t ih =>
    have h1 := ih (by omega)
    have h0 : reachAt t 0 = 0 := by cases t <;> simp [reachAt]
    rw [reachAt.eq_3, h0, h1]; omega
theorem bestF_one (fl : Int) (h0 : 0 < fl) (h1 : fl ≤ 1000) : bestF 1 fl = 1 := by
  have h2 : few 1 fl = fl.toNat := few_is 1 fl fl.toNat (by omega) (fun s hs => by rw [reachAt_one s (by omega)]; omega) (.inr (by rw [reachAt_one _ (by omega)]; omega))
  unfold bestF
  rw [h2, reachAt_one _ (by omega)]
  omega
set_option maxHeartbeats 8000000 in
set_option maxRecDepth 1000000 in
theorem play.calls (w : World) (b : Nat) (e0 fl0 br : Int) (hR : Rch w b) (he0 : 1 ≤ e0) (he1 : e0 ≤ 10) (hf0 : 0 ≤ fl0) (hf1 : fl0 ≤ 1000) :
    Calls Try.prog 118 #[.int .i64 e0, .int .i64 fl0, .int .i64 br, .func (.func 119) #[.pointer (some ⟨b, 0, none⟩)] #[]] w fun e w' => ∃ v0_ : Value, e = .returned (v0_) ∧ Kd.R k121 121 w' w.heap.size (fun _ => True) v0_ (playL br fl0.toNat e0 0 fl0) ∧ Below w.heap.size w w' := by
  have hu := Try.underlying121
  have HR := Aside0.mk hR
  have HE := Aside0.mk (And.intro (And.intro he0 he1) (And.intro hf0 hf1))
  clear hR he0 he1 hf0 hf1
  go_enter Try.func118, Try.ntmps118
  go_wp2
  go_loopg [0, 1, 9, 10] fl0.toNat (fun n v0 v1 v9 v10 w' => ∃ (e fl lo : Int) (xs : List S121), v0 = .int .i64 e ∧ v1 = .int .i64 fl ∧ v10 = .int .i64 lo ∧ Aside0 (0 ≤ lo ∧ 0 ≤ fl ∧ lo + fl ≤ 1000 ∧ 0 ≤ e ∧ e ≤ 10 ∧ (0 < fl → 1 ≤ e) ∧ fl ≤ n ∧ xs.length + n ≤ 1000) ∧ Aside0 (xs ++ playL br n e lo fl = playL br fl0.toNat e0 0 fl0) ∧ Aside0 (Kd.R k121 121 w' w.heap.size (fun _ => True) v9 xs) ∧ Aside0 (Below w.heap.size w w'))
  case atStart => exact ⟨e0, fl0, 0, [], rfl, rfl, rfl, ⟨by have := HE.out; simp; omega⟩, ⟨rfl⟩, ⟨Hw.R_empty _ _ _ _ _ (Nat.le_refl _) trivial⟩, ⟨by repeat (first | exact Below.refl _ _ | apply below_alloc | apply below_drew1)⟩⟩
  case round =>
    obtain ⟨e, fl, lo, xs, rfl, rfl, rfl, HK, HL, HO, HB⟩ := hrel
    by_cases hlt : 0 < fl
    · have d1 : decide (0 < fl) = true := decide_eq_true hlt
      obtain ⟨k1, rfl⟩ : ∃ k1, gk = k1 + 1 := ⟨gk - 1, by have := HK.out; omega⟩
      obtain ⟨f, hf⟩ : ∃ f : Int, bestF e.toNat fl = f := ⟨_, rfl⟩
      have hf1 : 1 ≤ f := by rw [← hf]; exact bestF_lo _ _
      have hf2 : f ≤ fl := by rw [← hf]; exact bestF_hi _ _ hlt
      have hf3 : e = 1 → f = 1 := by intro h_; rw [← hf, h_]; exact bestF_one fl hlt (by have := HK.out; omega)
      obtain ⟨s, hs⟩ : ∃ s : Int, s = lo + f := ⟨_, rfl⟩
      have w1 : IntKind.i64.wrap (lo + f) = s := by rw [hs]; exact Hw.wrap_w (by have := HK.out; omega) (by have := HK.out; omega)
      obtain ⟨y, hy⟩ : ∃ y : List S121, y = xs ++ [⟨s, decide (br < s)⟩] := ⟨_, rfl⟩
      have HBe : Aside0 (∀ W, Below w.heap.size w W → Calls Try.prog 119 (#[.pointer (some ⟨b, 0, none⟩)] ++ #[.int .i64 e, .int .i64 fl]) W fun en w' => en = .returned (.int .i64 f) ∧ w' = W.drew) := ⟨fun W hW => by rw [← hf]; exact best.calls W b e fl (by obtain ⟨cs, h1, h2⟩ := HR.out; exact ⟨cs, blk_below h1 hW, h2⟩) (by have := HK.out; omega) (by have := HK.out; omega) hlt (by have := HK.out; omega)⟩
      have HL2 : Aside0 (y ++ (if br < s then playL br k1 (e - 1) lo (f - 1) else playL br k1 e s (fl - f)) = playL br fl0.toNat e0 0 fl0) := ⟨by have h_ := HL.out; rw [playL, if_pos hlt, hf, ← hs] at h_; rw [hy, ← h_]; simp⟩
      have HF := Aside0.mk (And.intro hf1 (And.intro hf2 (And.intro hf3 (And.intro hs hlt))))
      have Ny := Aside0.mk hy
      clear hf hf1 hf2 hf3 hs hy hlt HL
      by_cases hc : br < s
      · have d2 : decide (br < s) = true := decide_eq_true hc
        rw [if_pos hc] at HL2
        rw [d2] at Ny
        have HC := Aside0.mk hc
        have w2 : IntKind.i64.wrap (e - 1) = e - 1 := Hw.wrap_w (by have := HK.out; omega) (by have := HK.out; omega)
        have w3 : IntKind.i64.wrap (f - 1) = f - 1 := Hw.wrap_w (by have := HF.out; have := HK.out; omega) (by have := HF.out; have := HK.out; omega)
        clear hc
        go_wp2_with (first | ((with_reducible refine Hw.gateV (t := 16) rfl ?_); go_loud (refine Hw.goesM (some 19) rfl rfl Try.func119 (by kernel_rfl) rfl #[.int .i64 e, .int .i64 fl] rfl rfl (by simp only [List.map_toArray, List.map_cons, List.map_nil]; rfl) ?_); (refine (HBe.out _ HB.out).mono ?_); rintro en w1 ⟨rfl, hw⟩; have hb : Below w.heap.size w w1 := (by rw [hw]; exact below_drew1 HB.out); have ho : Kd.R k121 121 w1 w.heap.size (fun _ => True) u9 xs := (by rw [hw]; exact Kd.R_drew HO.out); clear hw HB HO; have HB := Aside0.mk hb; have HO := Aside0.mk ho; clear hb ho; refine ⟨_, rfl, ?_⟩) | ((with_reducible refine gate_builtin (b := .append) (xs := #[.tmp 25, .tmp 31]) rfl ?_); at_builtin; refine Kd.R_append k121 (w0 := w) w.heap.size rfl (.tmp 25) (.tmp 31) 105 121 (.agg #[(.int .i64 0), (.bool false)]) 16 rfl Try.underlying105 info121 rfl (by decide) (by omega) u9 xs (⟨s, true⟩ : S121) [.int .i64 s, .bool true] (fun _ => True) (fun _ => False) rfl rfl ?aP (fun _ hk => hk.elim) ?aF ?aO ?aB ?aS ?aL ?_; (case aP => exact k121_mkM _ _ _ (⟨s, true⟩ : S121)); (case aB => exact (by repeat (first | (with_reducible first | exact HB.out | apply below_alloc | apply pw_below_drewN | apply below_drew1) | exact HB.out))); (case aF => exact (fun _ _ => trivial)); (case aO => exact (by (with_reducible repeat (first | apply Kd.R_alloc | apply Kd.R_drewN | apply Kd.R_drew)); exact HO.out)); (case aS => exact (below_size (by repeat (first | (with_reducible first | exact HB.out | apply below_alloc | apply pw_below_drewN | apply below_drew1) | exact HB.out)))); (case aL => have := HK.out; omega); intro v2 w2 ho hb hg hat; rw [← Ny.out] at ho; clear HB HO; have HB := Aside0.mk hb; have HO := Aside0.mk ho; clear ho hb hg hat))
        go_roundg k1
        case measure => omega
        case rel => exact ⟨e - 1, f - 1, lo, y, rfl, rfl, rfl, ⟨by have := HK.out; have := HF.out; have h_ : y.length = xs.length + 1 := (by rw [Ny.out]; simp); omega⟩, HL2, ⟨HO.out⟩, ⟨HB.out⟩⟩
      · have d2 : decide (br < s) = false := decide_eq_false hc
        rw [if_neg hc] at HL2
        rw [d2] at Ny
        have HC := Aside0.mk hc
        have w2 : IntKind.i64.wrap (fl - f) = fl - f := Hw.wrap_w (by have := HF.out; have := HK.out; omega) (by have := HF.out; have := HK.out; omega)
        clear hc
        go_wp2_with (first | ((with_reducible refine Hw.gateV (t := 16) rfl ?_); go_loud (refine Hw.goesM (some 19) rfl rfl Try.func119 (by kernel_rfl) rfl #[.int .i64 e, .int .i64 fl] rfl rfl (by simp only [List.map_toArray, List.map_cons, List.map_nil]; rfl) ?_); (refine (HBe.out _ HB.out).mono ?_); rintro en w1 ⟨rfl, hw⟩; have hb : Below w.heap.size w w1 := (by rw [hw]; exact below_drew1 HB.out); have ho : Kd.R k121 121 w1 w.heap.size (fun _ => True) u9 xs := (by rw [hw]; exact Kd.R_drew HO.out); clear hw HB HO; have HB := Aside0.mk hb; have HO := Aside0.mk ho; clear hb ho; refine ⟨_, rfl, ?_⟩) | ((with_reducible refine gate_builtin (b := .append) (xs := #[.tmp 25, .tmp 31]) rfl ?_); at_builtin; refine Kd.R_append k121 (w0 := w) w.heap.size rfl (.tmp 25) (.tmp 31) 105 121 (.agg #[(.int .i64 0), (.bool false)]) 16 rfl Try.underlying105 info121 rfl (by decide) (by omega) u9 xs (⟨s, false⟩ : S121) [.int .i64 s, .bool false] (fun _ => True) (fun _ => False) rfl rfl ?aP (fun _ hk => hk.elim) ?aF ?aO ?aB ?aS ?aL ?_; (case aP => exact k121_mkM _ _ _ (⟨s, false⟩ : S121)); (case aB => exact (by repeat (first | (with_reducible first | exact HB.out | apply below_alloc | apply pw_below_drewN | apply below_drew1) | exact HB.out))); (case aF => exact (fun _ _ => trivial)); (case aO => exact (by (with_reducible repeat (first | apply Kd.R_alloc | apply Kd.R_drewN | apply Kd.R_drew)); exact HO.out)); (case aS => exact (below_size (by repeat (first | (with_reducible first | exact HB.out | apply below_alloc | apply pw_below_drewN | apply below_drew1) | exact HB.out)))); (case aL => have := HK.out; omega); intro v2 w2 ho hb hg hat; rw [← Ny.out] at ho; clear HB HO; have HB := Aside0.mk hb; have HO := Aside0.mk ho; clear ho hb hg hat))
        go_roundg k1
        case measure => omega
        case rel => exact ⟨e, fl - f, s, y, rfl, rfl, rfl, ⟨by have := HK.out; have := HF.out; have h_ : y.length = xs.length + 1 := (by rw [Ny.out]; simp); omega⟩, HL2, ⟨HO.out⟩, ⟨HB.out⟩⟩
    · have d1 : decide (0 < fl) = false := decide_eq_false hlt
      have HL2 : Aside0 (xs = playL br fl0.toNat e0 0 fl0) := ⟨by rw [← HL.out, playL_done _ _ _ _ _ hlt]; simp⟩
      clear hlt
      go_wp2
      go_ret
      exact ⟨_, rfl, by rw [← HL2.out]; exact HO.out, HB.out⟩


-- FOR (*impl.reaches).asHas
-- CALLS impl.play ; impl.countBroken ; impl.IsClue ; impl.IsPuzzle
def brokenN (l : List S121) : Nat := (l.filter (fun d => d.f1)).length
theorem brokenN_cons (d : S121) (l : List S121) : brokenN (d :: l) = (if d.f1 then 1 else 0) + brokenN l := by
  unfold brokenN
  rw [List.filter_cons]
  split <;> simp [*] <;> omega
theorem brokenN_le (l : List S121) : brokenN l ≤ l.length := List.length_filter_le _ _
theorem countBroken_l (l : List S121) (hl : l.length ≤ 1000000) (n i : Nat) (x : Int) (hi : i + n = l.length) (hx0 : 0 ≤ x) (hx1 : x + n ≤ 1000000) : impl_countBroken.l0 (n + 1) x l (l.length : Int) (i : Int) = some (x + brokenN (l.drop i)) := by
  induction n generalizing i x with
  | zero =>
    rw [impl_countBroken.l0, if_neg (by omega), List.drop_of_length_le (by omega)]
    simp [brokenN]
  | succ n ih =>
    have hlt : i < l.length := by omega
    have hr : rd_T121 l (i : Int) = l[i] := by simp [rd_T121, hlt]
    rw [impl_countBroken.l0, if_pos (by omega), if_pos (by omega), if_pos (by omega), hr, List.drop_eq_getElem_cons hlt, brokenN_cons, Hw.wrap_id (by omega) (by omega), Hw.wrap_id (by omega) (by omega)]
    have h1 := ih (i + 1) (x + 1) (by omega) (by omega) (by omega)
    have h2 := ih (i + 1) x (by omega) (by omega) (by omega)
    simp only [Int.natCast_add, Int.natCast_one] at h1 h2
    split
    · rename_i h; rw [h1]; congr 1; simp [h]; omega
    · rename_i h; rw [h2]; congr 1; simp [h]
theorem countBroken_some (l : List S121) (hl : l.length ≤ 1000000) : impl_countBroken.f (l.length + 1) l = some (brokenN l : Int) := by
  have := countBroken_l l hl l.length 0 0 (by omega) (by omega) (by omega)
  simpa [impl_countBroken.f] using this
theorem playL_len (br : Int) (n : Nat) (e lo fl : Int) : (playL br n e lo fl).length ≤ n := by
  induction n generalizing e lo fl with
  | zero => exact Nat.le_refl _
  | succ n ih =>
    unfold playL
    split
    · rw [List.length_cons]
      split
      · exact Nat.succ_le_succ (ih _ _ _)
      · exact Nat.succ_le_succ (ih _ _ _)
    · exact Nat.zero_le _
def asHasV (fl k a br : Int) : Int := if k = 0 then (if br < a then 1 else 0) else if k = 1 then br.tmod a else if k = 2 then (playL br fl.toNat a 0 fl).length else if k = 3 then brokenN (playL br fl.toNat a 0 fl) else max (br - a) (a - br)
def okA (fl k a : Int) : Prop := 0 ≤ k ∧ k ≤ 4 ∧ (k = 1 → 2 ≤ a) ∧ (k = 2 ∨ k = 3 → 1 ≤ a ∧ a ≤ 10) ∧ (k = 4 → 0 ≤ a ∧ a ≤ fl)
set_option maxHeartbeats 8000000 in
set_option maxRecDepth 1000000 in
theorem asHas.calls (w : World) (b : Nat) (fl k a v br : Int) (hR : Rch w b) (hk : okA fl k a) (hf0 : 0 ≤ fl) (hf1 : fl ≤ 1000) (hb0 : 0 ≤ br) (hb1 : br ≤ fl) :
    Calls Try.prog 98 #[.pointer (some ⟨b, 0, none⟩), .int .i64 fl, .agg #[.int .i64 k, .int .i64 a, .int .i64 v], .int .i64 br] w fun e w' => e = .returned (.agg #[.int .i64 k, .int .i64 a, .int .i64 (asHasV fl k a br)]) ∧ Below w.heap.size w w' := by
  have HK := Aside0.mk hk
  have HF := Aside0.mk (And.intro hf0 (And.intro hf1 (And.intro hb0 hb1)))
  have HR := Aside0.mk hR
  obtain ⟨k0, k1, k2, k3, k4⟩ := hk
  clear hR hf0 hf1 hb0 hb1
  rcases (by omega : k = 0 ∨ k = 1 ∨ k = 2 ∨ k = 3 ∨ k = 4) with rfl | rfl | rfl | rfl | rfl
  · clear k0 k1 k2 k3 k4
    by_cases hc : br < a
    · have HV : Aside0 (asHasV fl 0 a br = 1) := ⟨by unfold asHasV; rw [if_pos rfl, if_pos hc]⟩
      have d1 : decide (br < a) = true := decide_eq_true hc
      clear hc
      go_enter Try.func98, Try.ntmps98
      go_wp2
      refine bodyPost_ret (results_cell_row rfl _ _ (w.heap.size + 1) 25 #[.int .i64 0, .int .i64 a, .int .i64 1] (0, 0) _ rfl (by have h_ := blk_new (w.alloc (Obj.cells #[Value.int IntKind.i64 0, Value.int IntKind.i64 a, Value.int IntKind.i64 1] 25)) (Obj.cells #[Value.int IntKind.i64 0, Value.int IntKind.i64 a, Value.int IntKind.i64 1] 25); rwa [World.size_alloc] at h_) Try.underlying25 rfl (by kernel_rfl)) rfl ⟨by rw [HV.out], below_alloc (below_alloc (Below.refl _ _) _) _⟩
    · have HV : Aside0 (asHasV fl 0 a br = 0) := ⟨by unfold asHasV; rw [if_pos rfl, if_neg hc]⟩
      have d1 : decide (br < a) = false := decide_eq_false hc
      clear hc
      go_enter Try.func98, Try.ntmps98
      go_wp2
      refine bodyPost_ret (results_cell_row rfl _ _ (w.heap.size + 1) 25 #[.int .i64 0, .int .i64 a, .int .i64 0] (0, 0) _ rfl (by have h_ := blk_new (w.alloc (Obj.cells #[Value.int IntKind.i64 0, Value.int IntKind.i64 a, Value.int IntKind.i64 0] 25)) (Obj.cells #[Value.int IntKind.i64 0, Value.int IntKind.i64 a, Value.int IntKind.i64 0] 25); rwa [World.size_alloc] at h_) Try.underlying25 rfl (by kernel_rfl)) rfl ⟨by rw [HV.out], below_alloc (below_alloc (Below.refl _ _) _) _⟩
  · have hne : a ≠ 0 := by have := k2 rfl; omega
    have hne' : (a = 0) = False := eq_false hne
    have hd : decide (a = 0) = false := decide_eq_false hne
    obtain ⟨m, hm⟩ : ∃ m : Int, m = br.tmod a := ⟨_, rfl⟩
    have hw : IntKind.i64.wrap (br.tmod a) = m := by
      rw [← hm]
      have h2 := k2 rfl
      have h3 := HF.out
      have h4 := Int.tmod_nonneg a h3.2.2.1
      have h5 := Int.tmod_lt_of_pos br (show 0 < a by omega)
      have h6 : br.tmod a ≤ br := by
        rcases Int.lt_or_le br a with h | h
        · rw [Int.tmod_eq_emod_of_nonneg h3.2.2.1, Int.emod_eq_of_lt h3.2.2.1 h]; exact Int.le_refl _
        · omega
      exact Hw.wrap_w (by omega) (by omega)
    have hm2 : br.tmod a = m := hm.symm
    have HV : Aside0 (asHasV fl 1 a br = m) := ⟨by unfold asHasV; rw [if_neg (by decide), if_pos rfl, hm]⟩
    clear hm k0 k1 k2 k3 k4
    go_enter Try.func98, Try.ntmps98
    go_wp2
    refine bodyPost_ret (results_cell_row rfl _ _ (w.heap.size + 1) 25 #[.int .i64 1, .int .i64 a, .int .i64 m] (0, 0) _ rfl (by have h_ := blk_new (w.alloc (Obj.cells #[Value.int IntKind.i64 1, Value.int IntKind.i64 a, Value.int IntKind.i64 m] 25)) (Obj.cells #[Value.int IntKind.i64 1, Value.int IntKind.i64 a, Value.int IntKind.i64 m] 25); rwa [World.size_alloc] at h_) Try.underlying25 rfl (by kernel_rfl)) rfl ⟨by rw [HV.out], below_alloc (below_alloc (Below.refl _ _) _) _⟩
  · obtain ⟨q0, q1⟩ := k3 (by omega)
    clear k0 k1 k2 k3 k4
    have HV : Aside0 (asHasV fl 2 a br = ((playL br fl.toNat a 0 fl).length : Int)) := ⟨by unfold asHasV; rw [if_neg (by decide), if_neg (by decide), if_pos rfl]⟩
    obtain ⟨L, hL⟩ : ∃ L, L = playL br fl.toNat a 0 fl := ⟨_, rfl⟩
    have HLn : Aside0 (L.length ≤ 1000) := ⟨by rw [hL]; have := playL_len br fl.toNat a 0 fl; have := HF.out; omega⟩
    have HCB : Aside0 (impl_countBroken.f (L.length + 1) L = some (brokenN L : Int)) := ⟨countBroken_some L (by have := HLn.out; omega)⟩
    have HP : Aside0 (∀ W, Below w.heap.size w W → Calls Try.prog 118 #[.int .i64 a, .int .i64 fl, .int .i64 br, .func (.func 119) #[.pointer (some ⟨b, 0, none⟩)] #[]] W fun e w' => ∃ v0_ : Value, e = .returned (v0_) ∧ Kd.R k121 121 w' W.heap.size (fun _ => True) v0_ L ∧ Below W.heap.size W w') := ⟨fun W hW => by
      obtain ⟨cs, h1, h2⟩ := HR.out
      rw [hL]
      exact play.calls W b a fl br ⟨cs, blk_below h1 hW, h2⟩ q0 q1 HF.out.1 HF.out.2.1⟩
    rw [← hL] at HV
    obtain ⟨n, hn⟩ : ∃ n : Int, n = (L.length : Int) := ⟨_, rfl⟩
    rw [← hn] at HV
    have hn2 := hn.symm
    clear hL q0 q1 hn
    have hmf : ∀ (fn : Fn) (first cap : Array Value) (w : World), (Instr.makeFunc fn first cap).run Try.prog w = .ok (.func fn first cap) w := fun _ _ _ _ => rfl
    have hB0 : Aside0 (Below w.heap.size w ((w.alloc (Obj.cells #[Value.int IntKind.i64 2, Value.int IntKind.i64 a, Value.int IntKind.i64 v] 25)).alloc (Obj.cells #[Value.int IntKind.i64 0, Value.int IntKind.i64 0, Value.int IntKind.i64 0] 25))) := ⟨below_alloc (below_alloc (Below.refl _ _) _) _⟩
    have BK : Aside0 (((w.alloc (Obj.cells #[Value.int IntKind.i64 2, Value.int IntKind.i64 a, Value.int IntKind.i64 v] 25)).alloc (Obj.cells #[Value.int IntKind.i64 0, Value.int IntKind.i64 0, Value.int IntKind.i64 0] 25)).heap[w.heap.size]? = some (.cells #[Value.int IntKind.i64 2, Value.int IntKind.i64 a, Value.int IntKind.i64 v] 25 (0, 0))) := ⟨blk_alloc (blk_new _ _) _⟩
    have BJ : Aside0 (((w.alloc (Obj.cells #[Value.int IntKind.i64 2, Value.int IntKind.i64 a, Value.int IntKind.i64 v] 25)).alloc (Obj.cells #[Value.int IntKind.i64 0, Value.int IntKind.i64 0, Value.int IntKind.i64 0] 25)).heap[w.heap.size + 1]? = some (.cells #[Value.int IntKind.i64 0, Value.int IntKind.i64 0, Value.int IntKind.i64 0] 25 (0, 0))) := ⟨by have h_ := blk_new (w.alloc (Obj.cells #[Value.int IntKind.i64 2, Value.int IntKind.i64 a, Value.int IntKind.i64 v] 25)) (Obj.cells #[Value.int IntKind.i64 0, Value.int IntKind.i64 0, Value.int IntKind.i64 0] 25); rwa [World.size_alloc] at h_⟩
    go_enter Try.func98, Try.ntmps98
    go_wp2_with (first | (go_at_call 118; refine (HP.out _ hB0.out).mono ?_; rintro e w1 ⟨v1, rfl, hO, hb1⟩; obtain ⟨A1, c1, rfl⟩ := Kd.R_slice hO; have HO1 := Aside0.mk hO; have HB1 := Aside0.mk (below_step hB0.out hb1); have BK1 := Aside0.mk (blk_below BK.out hb1); have BJ1 := Aside0.mk (blk_below BJ.out hb1); have c10 := (blk_cell BK1.out 0).trans rfl; have d10 := (blk_cell BJ1.out 0).trans rfl; have f10 := blk_frozen BK1.out 0; have g10 := blk_frozen BJ1.out 0; have c11 := (blk_cell BK1.out 1).trans rfl; have d11 := (blk_cell BJ1.out 1).trans rfl; have f11 := blk_frozen BK1.out 1; have g11 := blk_frozen BJ1.out 1; have c12 := (blk_cell BK1.out 2).trans rfl; have d12 := (blk_cell BJ1.out 2).trans rfl; have f12 := blk_frozen BK1.out 2; have g12 := blk_frozen BJ1.out 2))
    refine bodyPost_ret (results_cell_row rfl _ _ (w.heap.size + 1) 25 #[Value.int IntKind.i64 2, Value.int IntKind.i64 a, Value.int IntKind.i64 n] (0, 0) _ rfl (blk_put (cs := #[Value.int IntKind.i64 2, Value.int IntKind.i64 a, Value.int IntKind.i64 0]) (blk_put (cs := #[Value.int IntKind.i64 2, Value.int IntKind.i64 0, Value.int IntKind.i64 0]) (blk_put (cs := #[Value.int IntKind.i64 0, Value.int IntKind.i64 0, Value.int IntKind.i64 0]) (blk_far BJ1.out (by simp) _) 0 _ rfl) 1 _ rfl) 2 _ rfl) Try.underlying25 rfl (by kernel_rfl)) rfl ⟨by rw [HV.out], below_set (below_set (below_set (below_set HB1.out (by simp)) (by simp)) (by simp)) (by simp)⟩
  · obtain ⟨q0, q1⟩ := k3 (by omega)
    clear k0 k1 k2 k3 k4
    have HV : Aside0 (asHasV fl 3 a br = (brokenN (playL br fl.toNat a 0 fl) : Int)) := ⟨by unfold asHasV; rw [if_neg (by decide), if_neg (by decide), if_neg (by decide), if_pos rfl]⟩
    obtain ⟨L, hL⟩ : ∃ L, L = playL br fl.toNat a 0 fl := ⟨_, rfl⟩
    have HLn : Aside0 (L.length ≤ 1000) := ⟨by rw [hL]; have := playL_len br fl.toNat a 0 fl; have := HF.out; omega⟩
    have HCB : Aside0 (impl_countBroken.f (L.length + 1) L = some (brokenN L : Int)) := ⟨countBroken_some L (by have := HLn.out; omega)⟩
    have HP : Aside0 (∀ W, Below w.heap.size w W → Calls Try.prog 118 #[.int .i64 a, .int .i64 fl, .int .i64 br, .func (.func 119) #[.pointer (some ⟨b, 0, none⟩)] #[]] W fun e w' => ∃ v0_ : Value, e = .returned (v0_) ∧ Kd.R k121 121 w' W.heap.size (fun _ => True) v0_ L ∧ Below W.heap.size W w') := ⟨fun W hW => by
      obtain ⟨cs, h1, h2⟩ := HR.out
      rw [hL]
      exact play.calls W b a fl br ⟨cs, blk_below h1 hW, h2⟩ q0 q1 HF.out.1 HF.out.2.1⟩
    rw [← hL] at HV
    obtain ⟨n, hn⟩ : ∃ n : Int, n = (brokenN L : Int) := ⟨_, rfl⟩
    rw [← hn] at HV HCB
    have hn2 := hn.symm
    clear hL q0 q1 hn
    have hmf : ∀ (fn : Fn) (first cap : Array Value) (w : World), (Instr.makeFunc fn first cap).run Try.prog w = .ok (.func fn first cap) w := fun _ _ _ _ => rfl
    have hB0 : Aside0 (Below w.heap.size w ((w.alloc (Obj.cells #[Value.int IntKind.i64 3, Value.int IntKind.i64 a, Value.int IntKind.i64 v] 25)).alloc (Obj.cells #[Value.int IntKind.i64 0, Value.int IntKind.i64 0, Value.int IntKind.i64 0] 25))) := ⟨below_alloc (below_alloc (Below.refl _ _) _) _⟩
    have BK : Aside0 (((w.alloc (Obj.cells #[Value.int IntKind.i64 3, Value.int IntKind.i64 a, Value.int IntKind.i64 v] 25)).alloc (Obj.cells #[Value.int IntKind.i64 0, Value.int IntKind.i64 0, Value.int IntKind.i64 0] 25)).heap[w.heap.size]? = some (.cells #[Value.int IntKind.i64 3, Value.int IntKind.i64 a, Value.int IntKind.i64 v] 25 (0, 0))) := ⟨blk_alloc (blk_new _ _) _⟩
    have BJ : Aside0 (((w.alloc (Obj.cells #[Value.int IntKind.i64 3, Value.int IntKind.i64 a, Value.int IntKind.i64 v] 25)).alloc (Obj.cells #[Value.int IntKind.i64 0, Value.int IntKind.i64 0, Value.int IntKind.i64 0] 25)).heap[w.heap.size + 1]? = some (.cells #[Value.int IntKind.i64 0, Value.int IntKind.i64 0, Value.int IntKind.i64 0] 25 (0, 0))) := ⟨by have h_ := blk_new (w.alloc (Obj.cells #[Value.int IntKind.i64 3, Value.int IntKind.i64 a, Value.int IntKind.i64 v] 25)) (Obj.cells #[Value.int IntKind.i64 0, Value.int IntKind.i64 0, Value.int IntKind.i64 0] 25); rwa [World.size_alloc] at h_⟩
    go_enter Try.func98, Try.ntmps98
    go_wp2_with (first | (go_at_call 118; refine (HP.out _ hB0.out).mono ?_; rintro e w1 ⟨v1, rfl, hO, hb1⟩; obtain ⟨A1, c1, rfl⟩ := Kd.R_slice hO; have HO1 := Aside0.mk hO; have HB1 := Aside0.mk (below_step hB0.out hb1); have BK1 := Aside0.mk (blk_below BK.out hb1); have BJ1 := Aside0.mk (blk_below BJ.out hb1); have c10 := (blk_cell BK1.out 0).trans rfl; have d10 := (blk_cell BJ1.out 0).trans rfl; have f10 := blk_frozen BK1.out 0; have g10 := blk_frozen BJ1.out 0; have c11 := (blk_cell BK1.out 1).trans rfl; have d11 := (blk_cell BJ1.out 1).trans rfl; have f11 := blk_frozen BK1.out 1; have g11 := blk_frozen BJ1.out 1; have c12 := (blk_cell BK1.out 2).trans rfl; have d12 := (blk_cell BJ1.out 2).trans rfl; have f12 := blk_frozen BK1.out 2; have g12 := blk_frozen BJ1.out 2) | (go_at_call 107; refine (impl_countBroken.calls _ A1 c1 _ _ _ (Kd.R_reads' HO1.out).2.2 (Kd.R_reads' HO1.out).2.1 HCB.out).mono ?_; rintro e2 w2 ⟨rfl, hb2⟩; have HB2 := Aside0.mk (below_step HB1.out hb2); have BK2 := Aside0.mk (blk_below BK1.out hb2); have BJ2 := Aside0.mk (blk_below BJ1.out hb2); have c20 := (blk_cell BK2.out 0).trans rfl; have d20 := (blk_cell BJ2.out 0).trans rfl; have f20 := blk_frozen BK2.out 0; have g20 := blk_frozen BJ2.out 0; have c21 := (blk_cell BK2.out 1).trans rfl; have d21 := (blk_cell BJ2.out 1).trans rfl; have f21 := blk_frozen BK2.out 1; have g21 := blk_frozen BJ2.out 1; have c22 := (blk_cell BK2.out 2).trans rfl; have d22 := (blk_cell BJ2.out 2).trans rfl; have f22 := blk_frozen BK2.out 2; have g22 := blk_frozen BJ2.out 2))
    refine bodyPost_ret (results_cell_row rfl _ _ (w.heap.size + 1) 25 #[Value.int IntKind.i64 3, Value.int IntKind.i64 a, Value.int IntKind.i64 n] (0, 0) _ rfl (blk_put (cs := #[Value.int IntKind.i64 3, Value.int IntKind.i64 a, Value.int IntKind.i64 0]) (blk_put (cs := #[Value.int IntKind.i64 3, Value.int IntKind.i64 0, Value.int IntKind.i64 0]) (blk_put (cs := #[Value.int IntKind.i64 0, Value.int IntKind.i64 0, Value.int IntKind.i64 0]) (blk_far BJ2.out (by simp) _) 0 _ rfl) 1 _ rfl) 2 _ rfl) Try.underlying25 rfl (by kernel_rfl)) rfl ⟨by rw [HV.out], below_set (below_set (below_set (below_set HB2.out (by simp)) (by simp)) (by simp)) (by simp)⟩
  · obtain ⟨q0, q1⟩ := k4 rfl
    obtain ⟨x, hx⟩ : ∃ x : Int, x = br - a := ⟨_, rfl⟩
    obtain ⟨y, hy⟩ : ∃ y : Int, y = a - br := ⟨_, rfl⟩
    have w1 : IntKind.i64.wrap (br - a) = x := by rw [hx]; exact Hw.wrap_w (by have := HF.out; omega) (by have := HF.out; omega)
    have w2 : IntKind.i64.wrap (a - br) = y := by rw [hy]; exact Hw.wrap_w (by have := HF.out; omega) (by have := HF.out; omega)
    have HV : Aside0 (asHasV fl 4 a br = max x y) := ⟨by unfold asHasV; rw [if_neg (by decide), if_neg (by decide), if_neg (by decide), if_neg (by decide), hx, hy]⟩
    by_cases hc : x < y
    · have d1 : decide (x < y) = true := decide_eq_true hc
      have HV2 : Aside0 (max x y = y) := ⟨by omega⟩
      have HV : Aside0 (asHasV fl 4 a br = y) := ⟨HV.out.trans HV2.out⟩
      have hc' : (x < y) = True := eq_true hc
      clear hx hy k0 k1 k2 k3 k4 hc HV2
      go_enter Try.func98, Try.ntmps98
      go_wp2
      refine bodyPost_ret (results_cell_row rfl _ _ (w.heap.size + 1) 25 #[.int .i64 4, .int .i64 a, .int .i64 y] (0, 0) _ rfl (by have h_ := blk_new (w.alloc (Obj.cells #[Value.int IntKind.i64 4, Value.int IntKind.i64 a, Value.int IntKind.i64 y] 25)) (Obj.cells #[Value.int IntKind.i64 4, Value.int IntKind.i64 a, Value.int IntKind.i64 y] 25); rwa [World.size_alloc] at h_) Try.underlying25 rfl (by kernel_rfl)) rfl ⟨by rw [HV.out], below_alloc (below_alloc (Below.refl _ _) _) _⟩
    · have d1 : decide (x < y) = false := decide_eq_false hc
      have HV2 : Aside0 (max x y = x) := ⟨by omega⟩
      have HV : Aside0 (asHasV fl 4 a br = x) := ⟨HV.out.trans HV2.out⟩
      have hc' : (x < y) = False := eq_false hc
      clear hx hy k0 k1 k2 k3 k4 hc HV2
      go_enter Try.func98, Try.ntmps98
      go_wp2
      refine bodyPost_ret (results_cell_row rfl _ _ (w.heap.size + 1) 25 #[.int .i64 4, .int .i64 a, .int .i64 x] (0, 0) _ rfl (by have h_ := blk_new (w.alloc (Obj.cells #[Value.int IntKind.i64 4, Value.int IntKind.i64 a, Value.int IntKind.i64 x] 25)) (Obj.cells #[Value.int IntKind.i64 4, Value.int IntKind.i64 a, Value.int IntKind.i64 x] 25); rwa [World.size_alloc] at h_) Try.underlying25 rfl (by kernel_rfl)) rfl ⟨by rw [HV.out], below_alloc (below_alloc (Below.refl _ _) _) _⟩
theorem isClue_ok {fl k a v : Int} (h : impl_IsClue.f fl k a v = some true) : 1 ≤ fl ∧ fl ≤ 40 ∧ okA fl k a := by
  unfold impl_IsClue.f at h
  rw [hidden_some] at h
  have hw : ∀ x y z : Int, impl_within.f x y z = some (decide (y ≤ x) && decide (x ≤ z)) := by
    intro x y z
    unfold impl_within.f
    by_cases h : y ≤ x <;> simp [h]
  have he : ∀ x : Int, impl_isEggs.f x = some (decide (1 ≤ x) && decide (x ≤ 10)) := by
    intro x; unfold impl_isEggs.f; rw [hw]; rfl
  have hb : ∀ x y : Int, impl_isBreak.f x y = some (decide (0 ≤ y) && decide (y ≤ x)) := by
    intro x y; unfold impl_isBreak.f; rw [hw]; rfl
  simp only [Option.bind_some, hw, he, hb] at h
  unfold okA
  repeat' (split at h)
  all_goals simp at h
  all_goals simp only [Bool.and_eq_true, decide_eq_true_eq] at *
  all_goals omega


-- FOR (*impl.reaches).fits
-- CALLS (*impl.reaches).asHas
set_option maxHeartbeats 8000000 in
set_option maxRecDepth 1000000 in
theorem fits.calls (w : World) (b : Nat) (fl k a v br : Int) (hR : Rch w b) (hk : okA fl k a) (hf0 : 0 ≤ fl) (hf1 : fl ≤ 1000) (hb0 : 0 ≤ br) (hb1 : br ≤ fl) :
    Calls Try.prog 87 #[.pointer (some ⟨b, 0, none⟩), .int .i64 fl, .agg #[.int .i64 k, .int .i64 a, .int .i64 v], .int .i64 br] w fun e w' => e = .returned (.bool (asHasV fl k a br == v)) ∧ Below w.heap.size w w' := by
  have HB : Aside0 (Below w.heap.size w (w.alloc (Obj.cells #[Value.int IntKind.i64 k, Value.int IntKind.i64 a, Value.int IntKind.i64 v] 25))) := ⟨below_alloc (Below.refl _ _) _⟩
  have BK : Aside0 ((w.alloc (Obj.cells #[Value.int IntKind.i64 k, Value.int IntKind.i64 a, Value.int IntKind.i64 v] 25)).heap[w.heap.size]? = some (.cells #[Value.int IntKind.i64 k, Value.int IntKind.i64 a, Value.int IntKind.i64 v] 25 (0, 0))) := ⟨blk_new _ _⟩
  have HP : Aside0 (∀ W, Below w.heap.size w W → Calls Try.prog 98 #[.pointer (some ⟨b, 0, none⟩), .int .i64 fl, .agg #[.int .i64 k, .int .i64 a, .int .i64 v], .int .i64 br] W fun e w' => e = .returned (.agg #[.int .i64 k, .int .i64 a, .int .i64 (asHasV fl k a br)]) ∧ Below W.heap.size W w') := ⟨fun W hW => by
    obtain ⟨cs, h1, h2⟩ := hR
    exact asHas.calls W b fl k a v br ⟨cs, blk_below h1 hW, h2⟩ hk hf0 hf1 hb0 hb1⟩
  have c00 := (blk_cell BK.out 0).trans rfl
  have c01 := (blk_cell BK.out 1).trans rfl
  have c02 := (blk_cell BK.out 2).trans rfl
  clear hR hk hf0 hf1 hb0 hb1
  obtain ⟨n, hn⟩ : ∃ n, n = asHasV fl k a br := ⟨_, rfl⟩
  rw [← hn] at HP ⊢
  clear hn
  by_cases hnv : n = v
  · have h1 : (n == v) = true := by simp [hnv]
    have h2 : decide (n = v) = true := decide_eq_true hnv
    have h3 : (n = v) = True := eq_true hnv
    rw [h1]
    clear hnv
    go_enter Try.func87, Try.ntmps87
    go_wp2
    go_region_held3 (fun w' => w'.cell? ⟨w.heap.size, 0, none⟩ = some (.int .i64 k) ∧ w'.cell? ⟨w.heap.size, 1, none⟩ = some (.int .i64 a) ∧ w'.cell? ⟨w.heap.size, 2, none⟩ = some (.int .i64 v)) (first | exact ⟨c00, c01, c02⟩ | exact ⟨c10, c11, c12⟩) (first | (go_at_call 98; refine (HP.out _ (below_drew1 HB.out)).mono ?_; rintro e w1 ⟨rfl, hb⟩; have HB1 := Aside0.mk (below_step (below_drew1 HB.out) hb); have BK1 := Aside0.mk (blk_below (blk_drew BK.out) hb); have c10 := (blk_cell BK1.out 0).trans rfl; have c11 := (blk_cell BK1.out 1).trans rfl; have c12 := (blk_cell BK1.out 2).trans rfl))
    all_goals go_wp2
    all_goals
      go_ret
      exact ⟨rfl, HB1.out⟩
  · have h1 : (n == v) = false := by simp [hnv]
    have h2 : decide (n = v) = false := decide_eq_false hnv
    have h3 : (n = v) = False := eq_false hnv
    rw [h1]
    clear hnv
    go_enter Try.func87, Try.ntmps87
    go_wp2
    go_region_held3 (fun w' => w'.cell? ⟨w.heap.size, 0, none⟩ = some (.int .i64 k) ∧ w'.cell? ⟨w.heap.size, 1, none⟩ = some (.int .i64 a) ∧ w'.cell? ⟨w.heap.size, 2, none⟩ = some (.int .i64 v)) (first | exact ⟨c00, c01, c02⟩ | exact ⟨c10, c11, c12⟩) (first | (go_at_call 98; refine (HP.out _ (below_drew1 HB.out)).mono ?_; rintro e w1 ⟨rfl, hb⟩; have HB1 := Aside0.mk (below_step (below_drew1 HB.out) hb); have BK1 := Aside0.mk (blk_below (blk_drew BK.out) hb); have c10 := (blk_cell BK1.out 0).trans rfl; have c11 := (blk_cell BK1.out 1).trans rfl; have c12 := (blk_cell BK1.out 2).trans rfl))
    all_goals go_wp2
    all_goals
      go_ret
      exact ⟨rfl, HB1.out⟩


-- FOR (impl.Puzzle).solutions
-- CALLS (*impl.reaches).fits ; slices.ContainsFunc[[]impl.Clue,impl.Clue]
-- USES kd int
-- USES info int
def fitsB (fl : Int) (b : Int) (c : S25) : Bool := asHasV fl c.f0 c.f1 b == c.f2
def solsFrom (fl : Int) (cs : List S25) : Nat → Int → List Int
  | 0, _ => []
  | n + 1, b => if cs.all (fitsB fl b) = true then b :: solsFrom fl cs n (b + 1) else solsFrom fl cs n (b + 1)
def solsF (fl : Int) (cs : List S25) : List Int := solsFrom fl cs (fl + 1).toNat 0
theorem solsFrom_len (fl : Int) (cs : List S25) (n : Nat) (b : Int) : (solsFrom fl cs n b).length ≤ n := by
  induction n generalizing b with
  | zero => exact Nat.le_refl _
  | succ n ih =>
    unfold solsFrom
    split
    · rw [List.length_cons]; exact Nat.succ_le_succ (ih _)
    · exact Nat.le_succ_of_le (ih _)
set_option maxHeartbeats 8000000 in
set_option maxRecDepth 1000000 in
theorem solutions1.calls (fl br : Int) (b g1 g2 g3 : Nat) (V : Value) (x : S25) (W : World) (hR : Rch W b)
    (h1 : W.cell? ⟨g1, 0, none⟩ = some (.pointer (some ⟨b, 0, none⟩))) (h2 : W.cell? ⟨g2, 0, none⟩ = some (.int .i64 fl)) (h3 : W.cell? ⟨g3, 0, none⟩ = some (.int .i64 br))
    (hk : okA fl x.f0 x.f1) (hf0 : 0 ≤ fl) (hf1 : fl ≤ 1000) (hb0 : 0 ≤ br) (hb1 : br ≤ fl) :
    Calls Try.prog 120 #[.agg #[.int .i64 x.f0, .int .i64 x.f1, .int .i64 x.f2], .pointer (some ⟨g1, 0, none⟩), .pointer (some ⟨g2, 0, none⟩), .pointer (some ⟨g3, 0, none⟩)] W fun e W' => e = .returned (.bool (!fitsB fl br x)) ∧ Below W.heap.size W W' := by
  have HB : Aside0 (Below W.heap.size W (W.alloc (Obj.cells #[Value.int IntKind.i64 x.f0, Value.int IntKind.i64 x.f1, Value.int IntKind.i64 x.f2] 25))) := ⟨below_alloc (Below.refl _ _) _⟩
  have l1 := World.block_lt_of_cell? W _ h1
  have l2 := World.block_lt_of_cell? W _ h2
  have l3 := World.block_lt_of_cell? W _ h3
  have HP : Aside0 (Calls Try.prog 87 #[.pointer (some ⟨b, 0, none⟩), .int .i64 fl, .agg #[.int .i64 x.f0, .int .i64 x.f1, .int .i64 x.f2], .int .i64 br] (W.alloc (Obj.cells #[Value.int IntKind.i64 x.f0, Value.int IntKind.i64 x.f1, Value.int IntKind.i64 x.f2] 25)) fun e w' => e = .returned (.bool (fitsB fl br x)) ∧ Below (W.heap.size + 1) (W.alloc (Obj.cells #[Value.int IntKind.i64 x.f0, Value.int IntKind.i64 x.f1, Value.int IntKind.i64 x.f2] 25)) w') := ⟨by
    obtain ⟨cs, q1, q2⟩ := hR
    exact (fits.calls _ b fl x.f0 x.f1 x.f2 br ⟨cs, blk_alloc q1 _, q2⟩ hk hf0 hf1 hb0 hb1).mono fun e w' h => ⟨h.1, by simpa using h.2⟩⟩
  clear hR hk hf0 hf1 hb0 hb1
  go_enter Try.func120, Try.ntmps120
  go_wp2_with (first | (go_at_call 87; refine HP.out.mono ?_; rintro e w1 ⟨rfl, hb1⟩))
  go_ret
  exact ⟨rfl, HB.out.trans (hb1.mono (by simp))⟩
set_option maxHeartbeats 8000000 in
set_option maxRecDepth 1000000 in
theorem solutions.calls (w : World) (b : Nat) (fl : Int) (Ap A : Option Addr) (np cp c : Nat) (l : List S25) (hR : Rch w b) (hr : Kd.C k25 w A l.length l) (hc : l.length ≤ c) (hf0 : 0 ≤ fl) (hf1 : fl ≤ 1000) (hk : ∀ x ∈ l, okA fl x.f0 x.f1) :
    Calls Try.prog 101 #[.agg #[.int .i64 fl, .slice Ap np cp], .pointer (some ⟨b, 0, none⟩), .slice A l.length c] w fun e w' => ∃ v0_ : Value, e = .returned v0_ ∧ Kd.R (Kd.int .i64) 3 w' w.heap.size (fun _ => True) v0_ (solsF fl l) ∧ Below w.heap.size w w' := by
  have HR := Aside0.mk hR
  have HC := Aside0.mk hr
  have HK := Aside0.mk hk
  have HF := Aside0.mk (And.intro hf0 hf1)
  have hm := Kd.C_max hr
  obtain ⟨m, hm1⟩ : ∃ m : Int, m = fl + 1 := ⟨_, rfl⟩
  have w1 : IntKind.i64.wrap (fl + 1) = m := by rw [hm1]; exact Hw.wrap_w (by omega) (by omega)
  have HM := Aside0.mk hm1
  clear hR hr hc hk hf0 hf1 hm1
  go_enter Try.func101, Try.ntmps101
  go_wp2
  go_loopg [7, 13] m.toNat (fun n v7 v13 w' => ∃ (i : Int) (xs : List Int), v13 = .int .i64 i ∧ Aside0 (0 ≤ i ∧ i + n = m ∧ xs.length ≤ i) ∧ Aside0 (xs ++ solsFrom fl l n i = solsF fl l) ∧ Aside0 (Kd.R (Kd.int .i64) 3 w' w.heap.size (fun k_ => w.heap.size + 2 ≤ k_) v7 xs) ∧ Aside0 (w'.heap[w.heap.size]? = some (.cells #[.int .i64 fl, .slice Ap np cp] 35 (0, 0))) ∧ Aside0 (w'.heap[w.heap.size + 1]? = some (.cells #[.pointer (some ⟨b, 0, none⟩)] 86 (0, 0))) ∧ Aside0 (Below w.heap.size w w'))
  case atStart =>
    refine ⟨0, [], rfl, ⟨by have := HM.out; have := HF.out; simp; omega⟩, ⟨by unfold solsF; rw [HM.out]; rfl⟩, ⟨?_⟩, ⟨blk_alloc (blk_alloc (blk_new _ _) _) _⟩, ⟨?_⟩, ⟨below_alloc (below_alloc (below_alloc (Below.refl _ _) _) _) _⟩⟩
    · have h_ := Hw.R_empty (Kd.int .i64) 3 ((w.alloc (Obj.cells #[Value.int IntKind.i64 fl, Value.slice Ap np cp] 35)).alloc (Obj.cells #[Value.pointer (some { block := b, off := 0 })] 86)) w.heap.size (fun k_ => w.heap.size + 2 ≤ k_) (by simp only [World.size_alloc]; omega) (by simp only [World.size_alloc]; omega)
      rw [World.size_alloc, World.size_alloc] at h_
      exact h_
    · refine blk_alloc ?_ _
      have h_ := blk_new (w.alloc (Obj.cells #[Value.int IntKind.i64 fl, Value.slice Ap np cp] 35)) (Obj.cells #[Value.pointer (some { block := b, off := 0 })] 86)
      rwa [World.size_alloc] at h_
  case round =>
    obtain ⟨i, xs, rfl, HI, HL, HO, BP, BQ, HB⟩ := hrel
    by_cases hlt : i < m
    · have d1 : decide (i < m) = true := decide_eq_true hlt
      have HLt := Aside0.mk hlt
      obtain ⟨k1, rfl⟩ : ∃ k1, gk = k1 + 1 := ⟨gk - 1, by have := HI.out; omega⟩
      have w2 : IntKind.i64.wrap (i + 1) = i + 1 := Hw.wrap_w (by have := HI.out; omega) (by have := HI.out; have := HM.out; have := HF.out; omega)
      clear hlt
      have HX : Aside0 (Calls Try.prog 81 #[.slice A l.length c, .func (.func 120) #[] #[.pointer (some ⟨w.heap.size + 1, 0, none⟩), .pointer (some ⟨w.heap.size, 0, none⟩), .pointer (some ⟨wr.heap.size, 0, none⟩)]] (wr.alloc (Obj.cells #[Value.int IntKind.i64 i] 3)) fun e w' => e = .returned (.bool (!l.all (fitsB fl i))) ∧ Below (wr.alloc (Obj.cells #[Value.int IntKind.i64 i] 3)).heap.size (wr.alloc (Obj.cells #[Value.int IntKind.i64 i] 3)) w') := ⟨by
        have h_ : (!l.all (fitsB fl i)) = l.any (fun x => !fitsB fl i x) := by rw [← Hw.all_not_any, Bool.not_not]
        rw [h_]
        refine anyClue.calls (fun x => !fitsB fl i x) 120 _ _ A c l _ (Kd.C_alloc (Kd.C_below HC.out HB.out) _) Try.func120 (by kernel_rfl) rfl ?_
        intro x W hx hb
        obtain ⟨cs, q1, q2⟩ := HR.out
        exact solutions1.calls fl i b (w.heap.size + 1) w.heap.size wr.heap.size .nilFunc x W ⟨cs, blk_below (blk_alloc (blk_below q1 HB.out) _) hb, q2⟩ ((blk_cell (blk_below (blk_alloc BQ.out _) hb) 0).trans rfl) ((blk_cell (blk_below (blk_alloc BP.out _) hb) 0).trans rfl) ((blk_cell (blk_below (blk_new _ _) hb) 0).trans rfl) (HK.out x hx) HF.out.1 HF.out.2 HI.out.1 (by have := HLt.out; have := HM.out; omega)⟩
      have hmf : ∀ (fn : Fn) (first cap : Array Value) (w : World), (Instr.makeFunc fn first cap).run Try.prog w = .ok (.func fn first cap) w := fun _ _ _ _ => rfl
      obtain ⟨y, hy⟩ : ∃ y : List Int, y = xs ++ [i] := ⟨_, rfl⟩
      have Ny := Aside0.mk hy
      clear hy
      cases ha : l.all (fitsB fl i) with
      | true =>
        rw [ha] at HX
        have HL2 : Aside0 (y ++ solsFrom fl l k1 (i + 1) = solsF fl l) := ⟨by have h_ := HL.out; rw [solsFrom, if_pos ha] at h_; rw [Ny.out, ← h_]; simp⟩
        clear ha HL
        go_wp2_with (first | (go_at_call 81; refine HX.out.mono ?_; rintro e w2 ⟨rfl, hb2⟩; have hB2 : Below w.heap.size w w2 := (below_alloc HB.out _).trans (hb2.mono (by have := HB.out.size; simp; omega)); have bP := blk_below (blk_alloc BP.out (Obj.cells #[Value.int IntKind.i64 i] 3)) hb2; have bQ := blk_below (blk_alloc BQ.out (Obj.cells #[Value.int IntKind.i64 i] 3)) hb2; have bI := blk_below (blk_new wr (Obj.cells #[Value.int IntKind.i64 i] 3)) hb2; have hO := Kd.R_below (Kd.R_alloc HO.out (Obj.cells #[Value.int IntKind.i64 i] 3)) hb2; have cI := (blk_cell bI 0).trans rfl; clear HO HB BP BQ; have HO := Aside0.mk hO; have HB := Aside0.mk hB2; have BP := Aside0.mk bP; have BQ := Aside0.mk bQ; clear hO hB2 bP bQ bI hb2) | ((with_reducible refine gate_builtin (b := .append) (xs := #[.tmp 20, .tmp 22]) rfl ?_); at_builtin; refine Kd.R_append (Kd.int .i64) (w0 := w) w.heap.size rfl (.tmp 20) (.tmp 22) 55 3 (.int .i64 0) 8 rfl Try.underlying55 info3 rfl (by decide) (by omega) u7 xs i [.int .i64 i] (fun k_ => w.heap.size + 2 ≤ k_) (fun _ => False) rfl rfl ?aP (fun _ hk => hk.elim) ?aF ?aO ?aB ?aS ?aL ?_; (case aP => exact rfl); (case aB => exact (by repeat (first | (with_reducible first | exact HB.out | apply below_alloc | apply pw_below_drewN | apply below_drew1) | exact HB.out))); (case aF => exact (fun k_ hk => by have h_ := blk_lt BQ.out; show w.heap.size + 2 ≤ k_; omega)); (case aO => exact (by (with_reducible repeat (first | apply Kd.R_alloc | apply Kd.R_drewN | apply Kd.R_drew)); exact HO.out)); (case aS => exact (below_size (by repeat (first | (with_reducible first | exact HB.out | apply below_alloc | apply pw_below_drewN | apply below_drew1) | exact HB.out)))); (case aL => have := HI.out; have := HM.out; have := HF.out; have := HLt.out; omega); intro v3 w3 ho hb hg hat; rw [← Ny.out] at ho; have bP := blk_grown BP.out hg (fun h_ => by have h2_ : w.heap.size + 2 ≤ w.heap.size := HO.out.1 _ h_.symm; omega); have bQ := blk_grown BQ.out hg (fun h_ => by have h2_ : w.heap.size + 2 ≤ w.heap.size + 1 := HO.out.1 _ h_.symm; omega); clear HB HO BP BQ; have HB := Aside0.mk hb; have HO := Aside0.mk ho; have BP := Aside0.mk bP; have BQ := Aside0.mk bQ; clear ho hb hg hat bP bQ))
        go_roundg k1
        case measure => omega
        case rel => exact ⟨i + 1, y, rfl, ⟨by have := HI.out; have h_ : y.length = xs.length + 1 := (by rw [Ny.out]; simp); omega⟩, HL2, HO, BP, BQ, HB⟩
      | false =>
        rw [ha] at HX
        have HL2 : Aside0 (xs ++ solsFrom fl l k1 (i + 1) = solsF fl l) := ⟨by have h_ := HL.out; rw [solsFrom, if_neg (by rw [ha]; decide)] at h_; exact h_⟩
        clear ha HL
        go_wp2_with (first | (go_at_call 81; refine HX.out.mono ?_; rintro e w2 ⟨rfl, hb2⟩; have hB2 : Below w.heap.size w w2 := (below_alloc HB.out _).trans (hb2.mono (by have := HB.out.size; simp; omega)); have bP := blk_below (blk_alloc BP.out (Obj.cells #[Value.int IntKind.i64 i] 3)) hb2; have bQ := blk_below (blk_alloc BQ.out (Obj.cells #[Value.int IntKind.i64 i] 3)) hb2; have bI := blk_below (blk_new wr (Obj.cells #[Value.int IntKind.i64 i] 3)) hb2; have hO := Kd.R_below (Kd.R_alloc HO.out (Obj.cells #[Value.int IntKind.i64 i] 3)) hb2; have cI := (blk_cell bI 0).trans rfl; clear HO HB BP BQ; have HO := Aside0.mk hO; have HB := Aside0.mk hB2; have BP := Aside0.mk bP; have BQ := Aside0.mk bQ; clear hO hB2 bP bQ bI hb2))
        go_roundg k1
        case measure => omega
        case rel => exact ⟨i + 1, xs, rfl, ⟨by have := HI.out; omega⟩, HL2, HO, BP, BQ, HB⟩
    · have d1 : decide (i < m) = false := decide_eq_false hlt
      have HL2 : Aside0 (xs = solsF fl l) := ⟨by have := HI.out; rw [← HL.out, show gk = 0 by omega]; simp [solsFrom]⟩
      clear hlt
      go_wp2
      go_ret
      exact ⟨_, rfl, by rw [← HL2.out]; exact Kd.R_mono HO.out (fun _ _ => trivial), HB.out⟩


-- FOR impl.Solutions
-- KIND rounds=0 making=1
-- CALLS impl.IsPuzzle ; (impl.Puzzle).solutions ; impl.newReaches
def impl_Solutions.f (a0_0 : Int) (l0_1 : List S25) : Option (List Int × Bool) := (impl_IsPuzzle.f a0_0 l0_1).bind fun t => if t = true then some (solsF a0_0 l0_1, true) else some ([], false)
theorem isPuzzle_ok {fl : Int} {l : List S25} (h : impl_IsPuzzle.f fl l = some true) : 1 ≤ fl ∧ fl ≤ 40 ∧ l.length ≤ 6 ∧ ∀ x ∈ l, okA fl x.f0 x.f1 := by
  unfold impl_IsPuzzle.f at h
  have h1 := Option.some.inj h
  simp only [Bool.and_eq_true, decide_eq_true_eq, List.all_eq_true] at h1
  obtain ⟨⟨⟨q0, q1⟩, q2⟩, q3⟩ := h1
  refine ⟨q0, q1, q2, fun x hx => ?_⟩
  have h2 := q3 x hx
  exact (isClue_ok (v := x.f2) (by rw [isClue_some]; exact congrArg some h2)).2.2
set_option maxHeartbeats 8000000 in
set_option maxRecDepth 1000000 in
theorem impl_Solutions.calls (a0_0 : Int) (A0_1 : Option Addr) (c0_1 : Nat) (l0_1 : List S25) (r1 : List Int) (r2 : Bool) (w : World) (hr0_1 : Kd.C k25 w A0_1 l0_1.length l0_1) (hc0_1 : l0_1.length ≤ c0_1) (h : impl_Solutions.f a0_0 l0_1 = some (r1, r2)) :
    Calls Try.prog 49 #[.agg #[.int .i64 a0_0, .slice A0_1 l0_1.length c0_1]] w fun e w' => ∃ v0_ : Value, e = .returned (.tuple #[v0_, .bool r2]) ∧ Kd.R (Kd.int .i64) 3 w' w.heap.size (fun _ => True) v0_ r1 ∧ Below w.heap.size w w' := by
  have HB : Aside0 (Below w.heap.size w (w.alloc (Obj.cells #[Value.int IntKind.i64 a0_0, Value.slice A0_1 l0_1.length c0_1] 35))) := ⟨below_alloc (Below.refl _ _) _⟩
  have BK : Aside0 ((w.alloc (Obj.cells #[Value.int IntKind.i64 a0_0, Value.slice A0_1 l0_1.length c0_1] 35)).heap[w.heap.size]? = some (.cells #[Value.int IntKind.i64 a0_0, Value.slice A0_1 l0_1.length c0_1] 35 (0, 0))) := ⟨blk_new _ _⟩
  have HR := Aside0.mk hr0_1
  have HC := Aside0.mk hc0_1
  clear hr0_1 hc0_1
  obtain ⟨q, hq⟩ : ∃ q, impl_IsPuzzle.f a0_0 l0_1 = some q := ⟨_, rfl⟩
  unfold impl_Solutions.f at h
  rw [hq, Option.bind_some] at h
  have HQ := Aside0.mk hq
  cases q with
  | false =>
    rw [if_neg (by decide)] at h
    simp only [Option.some.injEq, Prod.mk.injEq] at h
    obtain ⟨rfl, rfl⟩ := h
    clear hq
    go_enter Try.func49, Try.ntmps49
    go_wp2_with (first | (go_at_call 25; refine (impl_IsPuzzle.calls _ _ _ _ _ _ (Kd.C_below HR.out HB.out) HC.out HQ.out).mono ?_; rintro e w1 ⟨rfl, hb⟩; have HB1 := Aside0.mk (below_step HB.out hb); clear hb))
    go_ret2
    exact ⟨_, rfl, Kd.R_nil _ _ _ _ _, HB1.out⟩
  | true =>
    rw [if_pos rfl] at h
    simp only [Option.some.injEq, Prod.mk.injEq] at h
    obtain ⟨rfl, rfl⟩ := h
    have HO := Aside0.mk (isPuzzle_ok hq)
    clear hq
    go_enter Try.func49, Try.ntmps49
    go_wp2_with (first | (go_at_call 25; refine (impl_IsPuzzle.calls _ _ _ _ _ _ (Kd.C_below HR.out HB.out) HC.out HQ.out).mono ?_; rintro e w1 ⟨rfl, hb⟩; have HB1 := Aside0.mk (below_step HB.out hb); have BK1 := Aside0.mk (blk_below BK.out hb); have c10 := (blk_cell BK1.out 0).trans rfl; have c11 := (blk_cell BK1.out 1).trans rfl; clear hb))
    go_region_held3 (fun w' => w'.cell? ⟨w.heap.size, 0, none⟩ = some (.int .i64 a0_0) ∧ w'.cell? ⟨w.heap.size, 1, none⟩ = some (.slice A0_1 l0_1.length c0_1)) (first | exact ⟨c10, c11⟩ | exact ⟨c30, c31⟩ | exact ⟨c40, c41⟩) (first | (go_at_call 86; refine (newReaches.calls _).mono ?_; rintro e w3 ⟨rfl, hr, hb⟩; have HR3 := Aside0.mk hr; have HB3 : Aside0 (Below w.heap.size w w3) := ⟨below_step (below_drew1 HB1.out) hb⟩; have BK3 := Aside0.mk (blk_below (w := w1.drew) (blk_drew BK1.out) hb); have c30 := (blk_cell BK3.out 0).trans rfl; have c31 := (blk_cell BK3.out 1).trans rfl; clear hr hb) | (go_at_call 101; refine (solutions.calls w3 _ a0_0 A0_1 A0_1 l0_1.length c0_1 c0_1 l0_1 HR3.out (Kd.C_below HR.out HB3.out) HC.out (by have := HO.out; omega) (by have := HO.out; omega) HO.out.2.2.2).mono ?_; rintro e w4 ⟨v4, rfl, ho4, hb⟩; have HO4 := Aside0.mk (Kd.R_lower ho4 (below_size HB3.out)); have HB4 := Aside0.mk (below_step HB3.out hb); have BK4 := Aside0.mk (blk_below BK3.out hb); have c40 := (blk_cell BK4.out 0).trans rfl; have c41 := (blk_cell BK4.out 1).trans rfl; clear hb ho4))
    all_goals go_wp2
    all_goals
      go_ret2
      exact ⟨_, rfl, HO4.out, HB4.out⟩


/-! ### impl_CountSolutions: function 39 -/
def impl_CountSolutions.f (a0_0 : Int) (l0_1 : List (S25)) : Option (Int × Bool) := (impl_Solutions.f a0_0 l0_1).bind fun bt245 => (some ((bt245.1.length : Int), bt245.2))
set_option maxHeartbeats 8000000 in
set_option maxRecDepth 100000 in
theorem impl_CountSolutions.calls (a0_0 : Int) (A0_1 : Option Addr) (c0_1 : Nat) (l0_1 : List (S25)) (r1 : Int) (r2 : Bool) (w : World) (hr0_1 : Kd.C k25 w A0_1 l0_1.length l0_1) (hc0_1 : l0_1.length ≤ c0_1) (h : impl_CountSolutions.f a0_0 l0_1 = some (r1, r2)) :
    Calls Try.prog 39 #[.agg #[.int .i64 a0_0, .slice A0_1 l0_1.length c0_1]] w fun e w' => e = .returned (.tuple #[.int .i64 r1, .bool r2]) ∧ Below w.heap.size w w' := by
  have hu35 := Try.underlying35
  have HR0_1 := Aside0.mk hr0_1
  have HC0_1 := Aside0.mk hc0_1
  clear hr0_1 hc0_1
  have HB := Aside0.mk (Below.refl w.heap.size w)
  have H : ((impl_Solutions.f a0_0 l0_1).bind fun bt245 => (some ((bt245.1.length : Int), bt245.2))) = some (r1, r2) := h
  clear h
  replace H := Option.bind_eq_some_iff.mp H
  obtain ⟨⟨t245, t248⟩, A20, H⟩ := H
  replace H : (some ((t245.length : Int), t248)) = some (r1, r2) := H
  have A2 := Aside0.mk A20
  clear A20
  simp only [Option.some.injEq, Prod.mk.injEq] at H
  obtain ⟨rfl, rfl⟩ := H
  go_enter Try.func39, Try.ntmps39
  go_wp2_with (first | ((with_reducible refine gate_dst (N := 1) rfl ?_); refine box_event ?hg (N := 1) ?hd (cs := #[.int .i64 a0_0, .slice A0_1 l0_1.length c0_1]) (t := 35) ?hr ?_; (case hd => rfl); (case hg => rfl); (case hr => first | (go_simp; done) | (go_simp; rfl)); intro gb244 hg w3 hbox hb; have n0_ := Aside0.mk (below_step (by repeat (first | (with_reducible first | exact HB.out | apply below_alloc | apply pw_below_drewN | apply below_drew1) | exact HB.out)) hb); have n1_ := Aside0.mk (hbox); have n2_ := Aside0.mk ((by rw [hg]; exact (below_size (by repeat (first | (with_reducible first | exact HB.out | apply below_alloc | apply pw_below_drewN | apply below_drew1) | exact HB.out))) : w.heap.size ≤ gb244)); have n3_ := Aside0.mk ((by rw [hg]; exact (below_size (by repeat (first | (with_reducible first | exact HB.out | apply below_alloc | apply pw_below_drewN | apply below_drew1) | exact HB.out))) : w.heap.size ≤ gb244)); clear HB; have HB := n0_; have BK244 := n1_; have GW244 := n2_; have GE244 := n3_; clear n0_ n1_ n2_ n3_; clear hb hbox hg; have hcz4_0 : w3.cell? ⟨gb244, 0, none⟩ = some (.int .i64 a0_0) := (blk_cell BK244.out 0).trans rfl; have hcz4_1 : w3.cell? ⟨gb244, 1, none⟩ = some (.slice A0_1 l0_1.length c0_1) := (blk_cell BK244.out 1).trans rfl; have hfz4_0 := blk_frozen BK244.out 0; have hfz4_1 := blk_frozen BK244.out 1) | ((with_reducible refine gate_callee (f := 49) rfl ?_); refine goesL_ (some 8) rfl rfl Try.func49 (by kernel_rfl) rfl #[.agg #[.int .i64 a0_0, .slice A0_1 l0_1.length c0_1]] rfl (by (try simp only [List.map_toArray, List.map_cons, List.map_nil]); first | done | rfl | (simp only [List.length_drop, List.length_take]; rfl)) ?_; (with_reducible refine (impl_Solutions.calls a0_0 _ _ l0_1 t245 t248 _ ?side1 ?side2 A2.out).mono ?_); (case side1 => repeat (first | exact (Kd.C_below HR0_1.out HB.out) | (with_reducible refine Kd.C_alloc ?_ _) | (with_reducible refine Kd.C_drewN ?_ _) | (with_reducible refine Kd.C_drew ?_))); (case side2 => exact HC0_1.out); rintro e w5 ⟨v246, rfl, ho0, hb⟩; refine ⟨_, rfl, ?_⟩; have n0_ := Aside0.mk (Kd.R_lower ho0 (below_size (by repeat (first | (with_reducible first | exact HB.out | apply below_alloc | apply pw_below_drewN | apply below_drew1 | refine below_set ?_ GE244.out) | exact HB.out)))); have n1_ := Aside0.mk (blk_below (g := gb244) (o := .cells #[.int .i64 a0_0, .slice A0_1 l0_1.length c0_1] 35 (0, 0)) (by (with_reducible repeat (first | refine blk_drewN ?_ _ | refine blk_drew ?_ | refine blk_alloc ?_ _)); exact BK244.out) hb); have n2_ := Aside0.mk (below_step (by repeat (first | (with_reducible first | exact HB.out | apply below_alloc | apply pw_below_drewN | apply below_drew1 | refine below_set ?_ GE244.out) | exact HB.out)) hb); clear BK244; clear HB; have HO247 := n0_; have BK244 := n1_; have HB := n2_; clear n0_ n1_ n2_; (try clear hb); (try clear hb2); (try clear hk); (try clear hi); (try clear ho0); obtain ⟨Ao6, co6, eo6⟩ := Kd.R_slice HO247.out; subst eo6))
  go_ret2
  exact ⟨by first | rfl | (simp [errW_none, errW_some] <;> rfl) | (simp [*, errW_none, errW_some] <;> rfl), by repeat (first | (with_reducible first | exact HB.out | apply below_alloc | apply pw_below_drewN | apply below_drew1 | refine below_set ?_ GE244.out) | exact HB.out)⟩

/-! ### impl_IsSolved: function 41 -/
def impl_IsSolved.f (a0_0 : Int) (l0_1 : List (S25)) : Option (Bool × Bool) := (impl_CountSolutions.f a0_0 l0_1).bind fun bt250 => (some ((bt250.1 == 1), bt250.2))
set_option maxHeartbeats 8000000 in
set_option maxRecDepth 100000 in
theorem impl_IsSolved.calls (a0_0 : Int) (A0_1 : Option Addr) (c0_1 : Nat) (l0_1 : List (S25)) (r1 : Bool) (r2 : Bool) (w : World) (hr0_1 : Kd.C k25 w A0_1 l0_1.length l0_1) (hc0_1 : l0_1.length ≤ c0_1) (h : impl_IsSolved.f a0_0 l0_1 = some (r1, r2)) :
    Calls Try.prog 41 #[.agg #[.int .i64 a0_0, .slice A0_1 l0_1.length c0_1]] w fun e w' => e = .returned (.tuple #[.bool r1, .bool r2]) ∧ Below w.heap.size w w' := by
  have hu35 := Try.underlying35
  have HR0_1 := Aside0.mk hr0_1
  have HC0_1 := Aside0.mk hc0_1
  clear hr0_1 hc0_1
  have HB := Aside0.mk (Below.refl w.heap.size w)
  have H : ((impl_CountSolutions.f a0_0 l0_1).bind fun bt250 => (some ((bt250.1 == 1), bt250.2))) = some (r1, r2) := h
  clear h
  replace H := Option.bind_eq_some_iff.mp H
  obtain ⟨⟨t250, t251⟩, A20, H⟩ := H
  replace H : (some ((t250 == 1), t251)) = some (r1, r2) := H
  have A2 := Aside0.mk A20
  clear A20
  simp only [Option.some.injEq, Prod.mk.injEq] at H
  obtain ⟨rfl, rfl⟩ := H
  go_enter Try.func41, Try.ntmps41
  go_wp2_with (first | ((with_reducible refine gate_dst (N := 1) rfl ?_); refine box_event ?hg (N := 1) ?hd (cs := #[.int .i64 a0_0, .slice A0_1 l0_1.length c0_1]) (t := 35) ?hr ?_; (case hd => rfl); (case hg => rfl); (case hr => first | (go_simp; done) | (go_simp; rfl)); intro gb249 hg w3 hbox hb; have n0_ := Aside0.mk (below_step (by repeat (first | (with_reducible first | exact HB.out | apply below_alloc | apply pw_below_drewN | apply below_drew1) | exact HB.out)) hb); have n1_ := Aside0.mk (hbox); have n2_ := Aside0.mk ((by rw [hg]; exact (below_size (by repeat (first | (with_reducible first | exact HB.out | apply below_alloc | apply pw_below_drewN | apply below_drew1) | exact HB.out))) : w.heap.size ≤ gb249)); have n3_ := Aside0.mk ((by rw [hg]; exact (below_size (by repeat (first | (with_reducible first | exact HB.out | apply below_alloc | apply pw_below_drewN | apply below_drew1) | exact HB.out))) : w.heap.size ≤ gb249)); clear HB; have HB := n0_; have BK249 := n1_; have GW249 := n2_; have GE249 := n3_; clear n0_ n1_ n2_ n3_; clear hb hbox hg; have hcz4_0 : w3.cell? ⟨gb249, 0, none⟩ = some (.int .i64 a0_0) := (blk_cell BK249.out 0).trans rfl; have hcz4_1 : w3.cell? ⟨gb249, 1, none⟩ = some (.slice A0_1 l0_1.length c0_1) := (blk_cell BK249.out 1).trans rfl; have hfz4_0 := blk_frozen BK249.out 0; have hfz4_1 := blk_frozen BK249.out 1) | ((with_reducible refine gate_callee (f := 39) rfl ?_); refine goesL_ (some 8) rfl rfl Try.func39 (by kernel_rfl) rfl #[.agg #[.int .i64 a0_0, .slice A0_1 l0_1.length c0_1]] rfl (by (try simp only [List.map_toArray, List.map_cons, List.map_nil]); first | done | rfl | (simp only [List.length_drop, List.length_take]; rfl)) ?_; (with_reducible refine (impl_CountSolutions.calls a0_0 _ _ l0_1 t250 t251 _ ?side1 ?side2 A2.out).mono ?_); (case side1 => repeat (first | exact (Kd.C_below HR0_1.out HB.out) | (with_reducible refine Kd.C_alloc ?_ _) | (with_reducible refine Kd.C_drewN ?_ _) | (with_reducible refine Kd.C_drew ?_))); (case side2 => exact HC0_1.out); rintro e w5 ⟨rfl, hb⟩; refine ⟨_, rfl, ?_⟩; have n0_ := Aside0.mk (blk_below (g := gb249) (o := .cells #[.int .i64 a0_0, .slice A0_1 l0_1.length c0_1] 35 (0, 0)) (by (with_reducible repeat (first | refine blk_drewN ?_ _ | refine blk_drew ?_ | refine blk_alloc ?_ _)); exact BK249.out) hb); have n1_ := Aside0.mk (below_step (by repeat (first | (with_reducible first | exact HB.out | apply below_alloc | apply pw_below_drewN | apply below_drew1 | refine below_set ?_ GE249.out) | exact HB.out)) hb); clear BK249; clear HB; have BK249 := n0_; have HB := n1_; clear n0_ n1_; (try clear hb); (try clear hb2); (try clear hk); (try clear hi)))
  go_ret2
  exact ⟨by first | rfl | (simp [errW_none, errW_some] <;> rfl) | (simp [*, errW_none, errW_some] <;> rfl), by repeat (first | (with_reducible first | exact HB.out | apply below_alloc | apply pw_below_drewN | apply below_drew1 | refine below_set ?_ GE249.out) | exact HB.out)⟩

-- FOR slices.Clone[[]impl.Clue,impl.Clue]
-- USES info impl.Clue
-- USES kd impl.Clue
-- KIND rounds=0 making=1
set_option maxHeartbeats 8000000 in
set_option maxRecDepth 1000000 in
theorem cloneClue.calls (w : World) (A : Option Addr) (c : Nat) (l : List S25) (hr : Kd.C k25 w A l.length l) (hc : l.length ≤ c) (hl : l.length < 5864062014805) :
    Calls Try.prog 88 #[.slice A l.length c] w fun e w' => ∃ v0_ : Value, e = .returned v0_ ∧ Kd.R k25 25 w' w.heap.size (fun _ => True) v0_ l ∧ Below w.heap.size w w' := by
  have HR := Aside0.mk hr
  have HC := Aside0.mk hc
  have HL := Aside0.mk hl
  cases A with
  | none =>
    have hl0 : l = [] := by
      rcases Nat.eq_zero_or_pos l.length with h0 | h0
      · exact List.eq_nil_of_length_eq_zero h0
      · obtain ⟨ad, h, _⟩ := hr.2.2 h0
        cases h
    subst hl0
    have hnil := run_eql_slice_nil (P := Try.prog) w 33 25 none 0 c Try.underlying33
    clear hr hc hl
    go_enter Try.func88, Try.ntmps88
    go_wp2
    go_ret
    exact ⟨_, rfl, Kd.R_nil _ _ _ _ _, Below.refl _ _⟩
  | some ad =>
    have hnil := run_eql_slice_nil (P := Try.prog) w 33 25 (some ad) l.length c Try.underlying33
    clear hr hc hl
    go_enter Try.func88, Try.ntmps88
    have HB := Aside0.mk (Below.refl w.heap.size w)
    go_wp2_with (first | ((with_reducible refine gate_builtin (b := .append) (xs := #[.tmp 5, .tmp 6]) rfl ?_); at_builtin; refine Kd.R_append_rows k25 (w0 := w) w.heap.size rfl (.tmp 5) (.tmp 6) 33 25 (.agg #[(.int .i64 0), (.int .i64 0), (.int .i64 0)]) 24 rfl Try.underlying33 info25 rfl (by decide) (by omega) (.slice (some ⟨w.heap.size, 0, none⟩) 0 0) [] l (some ad) l.length c (fun _ => True) (fun _ => False) rfl rfl (Hw.R_empty k25 25 w w.heap.size (fun _ => True) (Nat.le_refl _) trivial) (Kd.C_alloc HR.out _) (fun _ _ h => h) (fun _ h => h.elim) (fun _ _ => trivial) (below_alloc HB.out _) (by simp) (by have := HL.out; simp; omega) ?_; intro v1 w1 ho hb hg hat; clear hg hat))
    go_ret
    exact ⟨_, rfl, by simpa using ho, hb⟩
def impl_Clue_88.f (l0 : List S25) : Option (List S25) := if l0.length < 5864062014805 then some l0 else none
theorem impl_Clue_88.calls (A0 : Option Addr) (c0 : Nat) (l0 : List S25) (r : List S25) (w : World) (hr0 : Kd.C k25 w A0 l0.length l0) (hc0 : l0.length ≤ c0) (h : impl_Clue_88.f l0 = some r) :
    Calls Try.prog 88 #[.slice A0 l0.length c0] w fun e w' => ∃ v0_ : Value, e = .returned (v0_) ∧ Kd.R k25 25 w' w.heap.size (fun _ => True) v0_ r ∧ Below w.heap.size w w' := by
  unfold impl_Clue_88.f at h
  split at h
  · rename_i hl
    obtain rfl := Option.some.inj h
    exact cloneClue.calls w A0 c0 l0 hr0 hc0 hl
  · cases h


-- FOR slices.Delete[[]impl.Clue,impl.Clue]
-- USES info impl.Clue
set_option maxHeartbeats 8000000 in
set_option maxRecDepth 1000000 in
theorem delClue.calls (w : World) (g i j n c : Nat) (cur : Array Value) (hb : w.heap[g]? = some (.cells cur 25 (0, 0))) (hs : cur.size = c * 3) (hnc : n ≤ c) (hcm : c ≤ maxLen) (hij : i < j) (hj : j ≤ n) (h1 : ∀ u ∈ cur.toList.take (n * 3), u.oneCell' = true) :
    Calls Try.prog 117 #[.slice (some ⟨g, 0, none⟩) n c, .int .i64 i, .int .i64 j] w fun e w' => e = .returned (.slice (some ⟨g, 0, none⟩) (n - (j - i)) c) ∧ (∃ cur', w'.heap[g]? = some (.cells cur' 25 (0, 0)) ∧ cur'.size = cur.size ∧ cur'.toList.take ((n - (j - i)) * 3) = cur.toList.take (i * 3) ++ (cur.toList.take (n * 3)).drop (j * 3)) ∧ Below g w w' := by
  have hm : c ≤ 9223372036854775807 := Nat.le_trans hcm (by decide)
  obtain ⟨news, hnews⟩ : ∃ news, news = (cur.toList.take (n * 3)).drop (j * 3) := ⟨_, rfl⟩
  have hlen : news.length = (n - j) * 3 := by rw [hnews]; simp; omega
  have hget : ∀ t, t < (n - j) * 3 → news[t]? = cur[j * 3 + t]? := by
    intro t ht
    rw [hnews, List.getElem?_drop, List.getElem?_take, if_pos (by omega), Array.getElem?_toList]
  obtain ⟨A, hA, hsrc⟩ : ∃ A : Addr, (if c = j then some (⟨g, 0, none⟩ : Addr) else some ⟨g, j * 3, none⟩) = some A ∧ Hid (∀ t u, news[t]? = some u → w.drew.cell? (A.add t) = some u) := by
    by_cases h : c = j
    · refine ⟨⟨g, 0, none⟩, by simp [h], fun t u hu => ?_⟩
      have h0 : news.length = 0 := by rw [hlen]; omega
      rw [List.length_eq_zero_iff.1 h0] at hu
      simp at hu
    · refine ⟨⟨g, j * 3, none⟩, by simp [h], fun t u hu => ?_⟩
      have ht : t < (n - j) * 3 := by
        have := (List.getElem?_eq_some_iff.1 hu).1
        rwa [hlen] at this
      rw [hget t ht] at hu
      rw [Addr.add_lit]
      exact (blk_cell (blk_drew hb) _).trans hu
  have s1 : Hid (news.length = (n - j) * 3) := hlen
  have s2 : Hid (∀ u ∈ news, u.oneCell' = true) := by
    intro u hu
    rw [hnews] at hu
    exact h1 u (List.mem_of_mem_drop hu)
  have s3 : Hid (∀ t, t < news.length → (w.drew.cell? ⟨g, 0 + i * 3 + t, none⟩).isSome = true ∧ w.drew.frozen? ⟨g, 0 + i * 3 + t, none⟩ = false) := by
    intro t ht
    rw [hlen] at ht
    refine ⟨?_, blk_frozen (blk_drew hb) _⟩
    rw [blk_cell (blk_drew hb), Array.getElem?_eq_getElem (by omega)]
    rfl
  obtain ⟨W1, hW1⟩ : ∃ W1, W1 = w.drew.setCells g (0 + i * 3) news := ⟨_, rfl⟩
  obtain ⟨cur1, hb1, hc1⟩ := Hw.setCells_blk (t := 25) news (0 + i * 3) w.drew cur (blk_drew hb) (by rw [hlen]; omega)
  rw [← hW1] at hb1
  have hz1 : cur1.size = cur.size := by rw [← Array.length_toList, hc1]; simp [hlen]; omega
  obtain ⟨zs, hzs⟩ : ∃ zs, zs = (Builtin.zeroCells (Value.agg #[.int .i64 0, .int .i64 0, .int .i64 0]).cells (n - (i + (n - j)))).toList := ⟨_, rfl⟩
  have hlz : zs.length = (n - (i + (n - j))) * 3 := by rw [hzs, Hw.zeroCells_len]; rfl
  have hcl : ∀ ty, (Builtin.clear_ #[33] ty #[.slice (some ⟨g, (i + (n - j)) * 3, none⟩) (n - (i + (n - j))) (c - (i + (n - j)))]).run Try.prog W1 = .ok (.tuple #[]) (W1.setCells g ((i + (n - j)) * 3) zs) :=
    fun ty => hzs ▸ Hw.run_clear_cells W1 _ _ ty _ Try.underlying33 Try.zeroValue25 3 rfl (by decide) (by decide) g ((i + (n - j)) * 3) _ _ (by omega)
      (fun x hx => by rw [blk_cell hb1, Array.getElem?_eq_getElem (by omega)]; rfl) (fun x hx => blk_frozen hb1 _)
  have hW : Hid (W1 = w.drew.setCells g (0 + i * 3) news) := hW1
  have hic : i ≤ c := by omega
  have hjc : j ≤ c := by omega
  obtain ⟨i0_, hi0, _, hsz, _⟩ := info_parts info25
  have HH : Aside0 (∃ cur2, (W1.setCells g ((i + (n - j)) * 3) zs).heap[g]? = some (.cells cur2 25 (0, 0)) ∧ cur2.size = cur.size ∧ cur2.toList.take ((n - (j - i)) * 3) = cur.toList.take (i * 3) ++ (cur.toList.take (n * 3)).drop (j * 3)) := ⟨by
    obtain ⟨cur2, hb2, hc2⟩ := Hw.setCells_blk (t := 25) zs ((i + (n - j)) * 3) W1 cur1 hb1 (by rw [hlz]; omega)
    refine ⟨cur2, hb2, ?_, ?_⟩
    · rw [← Array.length_toList, hc2]
      simp only [List.length_append, List.length_take, List.length_drop, hlz, Array.length_toList]
      omega
    · rw [hc2, List.append_assoc, List.take_append_of_le_length (by rw [List.length_take, Array.length_toList]; omega), List.take_take, Nat.min_eq_left (by omega), hc1, List.take_append_of_le_length (by simp [hlen]; omega), List.take_of_length_le (by simp [hlen]; omega), hnews, Nat.zero_add]⟩
  have HBl : Aside0 (Below g w (W1.setCells g ((i + (n - j)) * 3) zs)) := ⟨by rw [hW1]; exact below_setCells (Nat.le_refl _) _ _ _ (below_setCells (Nat.le_refl _) _ _ _ (below_drew1 (Below.refl _ _)))⟩
  clear hzs hlz hW1 hb1 hb hget hnews hlen hc1 hz1 h1
  have hmixed : Try.prog.follows Departure.mixedOrders = true := by first | rfl | kernel_rfl
  go_enter Try.func117, Try.ntmps117
  go_wp2_with fail
  go_region_law_o (refine step_append_room rfl (.tmp 22) (.tmp 25) 33 rfl 25 i0_ 3 Try.underlying33 hi0 hsz g 0 i c (by simp [Act.eval, Act.put]) A (n - j) (c - j) news (by simp [Act.eval, Act.put]) s1.out hsrc.out s2.out (by omega) s3.out ?_; rw [← hW.out])
  go_wp2_with fail
  go_ret
  exact ⟨by rw [show n - (j - i) = i + (n - j) by omega]; rfl, HH.out, HBl.out⟩


-- FOR impl.withoutClue
-- KIND rounds=0 making=1
-- CALLS slices.Clone[[]impl.Clue,impl.Clue] ; slices.Delete[[]impl.Clue,impl.Clue]
def impl_withoutClue.f (l0 : List S25) (a1 : Int) : Option (List S25) := if 0 ≤ a1 ∧ a1 < (l0.length : Int) ∧ l0.length < 5864062014805 then some (l0.take a1.toNat ++ l0.drop (a1.toNat + 1)) else none
theorem withoutRow (w2 w3 : World) (base g cap i : Nat) (cur cur3 : Array Value) (inner : List Value) (l0 r : List S25) (hE : l0.take i ++ l0.drop (i + 1) = r) (h1 : i < l0.length) (hg0 : base ≤ g) (q : l0.length ≤ cap ∧ cap ≤ maxLen ∧ cur.size = cap * k25.sz)
    (h_ : List.take (l0.length * k25.sz) cur.toList = inner ∧ inner.length = l0.length * k25.sz ∧ Reps (k25.M w2 base fun k => True ∧ some k ≠ (Value.slice (some ⟨g, 0, none⟩) l0.length cap).ownBlock) k25.sz l0 inner)
    (hg3 : w3.heap[g]? = some (.cells cur3 25 (0, 0))) (hs3 : cur3.size = cur.size) (ht3 : cur3.toList.take ((l0.length - (i + 1 - i)) * 3) = cur.toList.take (i * 3) ++ (cur.toList.take (l0.length * 3)).drop ((i + 1) * 3)) :
    Kd.R k25 25 w3 base (fun _ => True) (.slice (some ⟨g, 0, none⟩) (l0.length - (i + 1 - i)) cap) r := by
  rw [show k25.sz = 3 from rfl] at h_ q
  have hrl : r.length = l0.length - (i + 1 - i) := by rw [← hE, List.length_append, List.length_take, List.length_drop]; omega
  refine ⟨fun _ _ => trivial, cur3.toList.take ((l0.length - (i + 1 - i)) * 3), ⟨?_, .inr ⟨g, cap, cur3, by rw [hrl], hg0, hg3, by omega, q.2.1, by rw [hs3]; exact q.2.2, by rw [hrl]; rfl⟩⟩, ?_⟩
  · have hl3 : cur3.toList.length = cap * 3 := by rw [Array.length_toList, hs3, q.2.2]
    rw [hrl, List.length_take, hl3]
    show _ = _ * 3
    omega
  · rw [ht3, ← hE, h_.1]
    have hr1 := Kd.reps_take (m := i) h_.2.2 (by omega)
    rw [← h_.1, List.take_take, Nat.min_eq_left (by omega)] at hr1
    exact Kd.reps_append hr1 (Kd.reps_drop (m := i + 1) h_.2.2)
set_option maxHeartbeats 8000000 in
set_option maxRecDepth 1000000 in
theorem impl_withoutClue.calls (A0 : Option Addr) (c0 : Nat) (l0 : List S25) (a1 : Int) (r : List S25) (w : World) (hr0 : Kd.C k25 w A0 l0.length l0) (hc0 : l0.length ≤ c0) (h : impl_withoutClue.f l0 a1 = some r) :
    Calls Try.prog 94 #[.slice A0 l0.length c0, .int .i64 a1] w fun e w' => ∃ v0_ : Value, e = .returned (v0_) ∧ Kd.R k25 25 w' w.heap.size (fun _ => True) v0_ r ∧ Below w.heap.size w w' := by
  unfold impl_withoutClue.f at h
  split at h
  case isFalse => cases h
  case isTrue hl =>
  obtain ⟨h0, h1, h2⟩ := hl
  have HE : Aside0 (l0.take a1.toNat ++ l0.drop (a1.toNat + 1) = r) := ⟨Option.some.inj h⟩
  clear h
  obtain ⟨i, rfl⟩ : ∃ i : Nat, a1 = i := ⟨a1.toNat, by omega⟩
  rw [Int.toNat_natCast] at HE
  have w1 : IntKind.i64.wrap ((i : Int) + 1) = ((i + 1 : Nat) : Int) := by rw [Hw.wrap_w (by omega) (by omega)]; omega
  have HR := Aside0.mk hr0
  have HC := Aside0.mk hc0
  have H1 : Aside0 (i < l0.length) := ⟨by omega⟩
  have H2 := Aside0.mk h2
  clear hr0 hc0 h0 h1 h2
  go_enter Try.func94, Try.ntmps94
  go_wp2_with (first | (go_at_call 88; refine (cloneClue.calls w A0 c0 l0 HR.out HC.out H2.out).mono ?_; rintro e w2 ⟨v2, rfl, ho, hb⟩; obtain ⟨_, inner, hown, hreps⟩ := ho; obtain ⟨hil, hcase⟩ := hown; obtain ⟨g, cap, cur, rfl, hg0, hg, q1, q2, q3, q4⟩ := hcase.resolve_left (fun h_ => by have := H1.out; omega); have HG := Aside0.mk hg; have HG0 := Aside0.mk hg0; have HQ := Aside0.mk (And.intro q1 (And.intro q2 q3)); have HI := Aside0.mk (And.intro q4 (And.intro hil hreps)); have HB2 := Aside0.mk hb; clear hil hcase hreps hg0 hg q1 q2 q3 q4 hb) | (go_at_call 117; have hcall := delClue.calls w2 g i (i + 1) l0.length cap cur HG.out HQ.out.2.2 HQ.out.1 HQ.out.2.1 (Nat.lt_succ_self i) H1.out (by have h_ := HI.out; rw [show k25.sz = 3 from rfl] at h_; rw [h_.1]; exact Kd.reps_one h_.2.2 (by decide) (fun p c hp => k25.K_one (w := w2) (k25.K_of_M hp))); rw [show ((i + 1 : Nat) : Int) = (i : Int) + 1 from rfl] at hcall; refine hcall.mono ?_; clear hcall; rintro e w3 ⟨rfl, ⟨cur3, hg3, hs3, ht3⟩, hb3⟩; have HB3 : Aside0 (Below w.heap.size w w3) := ⟨HB2.out.trans (hb3.mono HG0.out)⟩; have HO3 := Aside0.mk (withoutRow w2 w3 w.heap.size g cap i cur cur3 inner l0 r HE.out H1.out HG0.out HQ.out HI.out hg3 hs3 ht3); clear hg3 hs3 ht3 hb3))
  go_ret
  exact ⟨_, rfl, by have h_ := HO3.out; rw [show l0.length - (i + 1 - i) = l0.length - 1 by omega] at h_; exact h_, HB3.out⟩


-- FOR impl.HarderPuzzle
-- KIND rounds=0 making=1
-- CALLS impl.IsSolved ; impl.withoutClue ; (impl.Puzzle).solutions ; impl.newReaches ; impl.Solutions ; impl.IsPuzzle ; slices.Clone[[]impl.Clue,impl.Clue]
-- USES info impl.Clue
-- USES kd impl.Clue
def woutH (cs : List S25) (k : Nat) : List S25 := cs.take k ++ cs.drop (k + 1)
theorem woutH_len {cs : List S25} {k : Nat} (h : k < cs.length) : (woutH cs k).length = cs.length - 1 := by
  unfold woutH
  rw [List.length_append, List.length_take, List.length_drop]
  omega
def hardF (fl : Int) : Nat → List S25 → Nat → List S25
  | 0, cs, _ => cs
  | n + 1, cs, k => if ((solsF fl (woutH cs k)).length : Int) = 1 then hardF fl n (woutH cs k) k else hardF fl n cs (k + 1)
def impl_HarderPuzzle.f (a0_0 : Int) (l0_1 : List S25) : Option (Int × List S25 × Bool) := (impl_IsSolved.f a0_0 l0_1).bind fun t => if (t.2 && t.1) = true then some (a0_0, hardF a0_0 l0_1.length l0_1 0, true) else some (0, [], false)
theorem isSolved_ok {fl : Int} {l : List S25} {b : Bool} (h : impl_IsSolved.f fl l = some (b, true)) : impl_IsPuzzle.f fl l = some true := by
  obtain ⟨q, hq⟩ : ∃ q, impl_IsPuzzle.f fl l = some q := ⟨_, rfl⟩
  unfold impl_IsSolved.f impl_CountSolutions.f impl_Solutions.f at h
  rw [hq] at h ⊢
  cases q
  · simp at h
  · rfl
set_option maxHeartbeats 8000000 in
set_option maxRecDepth 1000000 in
theorem impl_HarderPuzzle.calls (a0_0 : Int) (A0_1 : Option Addr) (c0_1 : Nat) (l0_1 : List S25) (r1 : Int) (r2 : List S25) (r3 : Bool) (w : World) (hr0_1 : Kd.C k25 w A0_1 l0_1.length l0_1) (hc0_1 : l0_1.length ≤ c0_1) (h : impl_HarderPuzzle.f a0_0 l0_1 = some (r1, r2, r3)) :
    Calls Try.prog 58 #[.agg #[.int .i64 a0_0, .slice A0_1 l0_1.length c0_1]] w fun e w' => ∃ v1_ : Value, e = .returned (.tuple #[.agg #[.int .i64 r1, v1_], .bool r3]) ∧ Kd.R k25 25 w' w.heap.size (fun _ => True) v1_ r2 ∧ Below w.heap.size w w' := by
  have HB : Aside0 (Below w.heap.size w ((w.alloc (Obj.cells #[Value.int IntKind.i64 a0_0, Value.slice A0_1 l0_1.length c0_1] 35)).alloc (Obj.cells #[.int .i64 0, .slice none 0 0] 35))) := ⟨below_alloc (below_alloc (Below.refl _ _) _) _⟩
  have BK : Aside0 (((w.alloc (Obj.cells #[Value.int IntKind.i64 a0_0, Value.slice A0_1 l0_1.length c0_1] 35)).alloc (Obj.cells #[.int .i64 0, .slice none 0 0] 35)).heap[w.heap.size]? = some (.cells #[Value.int IntKind.i64 a0_0, Value.slice A0_1 l0_1.length c0_1] 35 (0, 0))) := ⟨blk_alloc (blk_new _ _) _⟩
  have BR : Aside0 (((w.alloc (Obj.cells #[Value.int IntKind.i64 a0_0, Value.slice A0_1 l0_1.length c0_1] 35)).alloc (Obj.cells #[.int .i64 0, .slice none 0 0] 35)).heap[w.heap.size + 1]? = some (.cells #[.int .i64 0, .slice none 0 0] 35 (0, 0))) := ⟨by
    have h_ := blk_new (w.alloc (Obj.cells #[Value.int IntKind.i64 a0_0, Value.slice A0_1 l0_1.length c0_1] 35)) (Obj.cells #[.int .i64 0, .slice none 0 0] 35)
    rwa [World.size_alloc] at h_⟩
  have HR := Aside0.mk hr0_1
  have HC := Aside0.mk hc0_1
  clear hr0_1 hc0_1
  obtain ⟨q, hq⟩ : ∃ q, impl_IsSolved.f a0_0 l0_1 = some q := by unfold impl_IsSolved.f impl_CountSolutions.f impl_Solutions.f impl_IsPuzzle.f; simp only [Option.bind_some]; split <;> exact ⟨_, rfl⟩
  unfold impl_HarderPuzzle.f at h
  rw [hq, Option.bind_some] at h
  obtain ⟨b1, b2⟩ := q
  have HQ := Aside0.mk hq
  by_cases hb12 : (b2 && b1) = true
  · rw [if_pos hb12] at h
    simp only [Option.some.injEq, Prod.mk.injEq] at h
    obtain ⟨rfl, hr2, rfl⟩ := h
    simp only [Bool.and_eq_true] at hb12
    obtain ⟨rfl, rfl⟩ := hb12
    have HO := Aside0.mk (isPuzzle_ok (isSolved_ok hq))
    have HR2 := Aside0.mk hr2
    clear hq hr2
    go_enter Try.func58, Try.ntmps58
    go_wp2_with (first | (go_at_call 41; refine (impl_IsSolved.calls _ _ _ _ _ _ _ (Kd.C_below HR.out HB.out) HC.out HQ.out).mono ?_; rintro e w1 ⟨rfl, hb⟩; have HB1 := Aside0.mk (below_step HB.out hb); have BK1 := Aside0.mk (blk_below BK.out hb); have BR1 := Aside0.mk (blk_below BR.out hb); have c10 := (blk_cell BK1.out 0).trans rfl; have c11 := (blk_cell BK1.out 1).trans rfl; clear hb))
    go_region_held3 (fun w' => w'.cell? ⟨w.heap.size, 0, none⟩ = some (.int .i64 a0_0) ∧ w'.cell? ⟨w.heap.size, 1, none⟩ = some (.slice A0_1 l0_1.length c0_1)) (first | exact ⟨c10, c11⟩ | exact ⟨c30, c31⟩ | exact ⟨c40, c41⟩) (first
      | (go_at_call 86; refine (newReaches.calls _).mono ?_; rintro e w3 ⟨rfl, hr, hb⟩; have HR3 := Aside0.mk hr; have HB3 : Aside0 (Below w.heap.size w w3) := ⟨below_step (below_drew1 HB1.out) hb⟩; have BK3 := Aside0.mk (blk_below (w := w1.drew) (blk_drew BK1.out) hb); have BR3 := Aside0.mk (blk_below (w := w1.drew) (blk_drew BR1.out) hb); have HS3 : Aside0 (w1.heap.size ≤ w3.heap.size) := ⟨hb.size⟩; have c30 := (blk_cell BK3.out 0).trans rfl; have c31 := (blk_cell BK3.out 1).trans rfl; clear hr hb)
      | (go_at_call 88; refine (cloneClue.calls w3 A0_1 c0_1 l0_1 (Kd.C_below HR.out HB3.out) HC.out (by have := HO.out; omega)).mono ?_; rintro e w4 ⟨v4, rfl, ho, hb⟩; obtain ⟨A4, c4, rfl⟩ := Kd.R_slice ho; have HO4 := Aside0.mk (Kd.R_mono (ok' := fun k_ => w3.heap.size ≤ k_) (Kd.R_lower (Kd.R_bound ho) (below_size HB3.out)) (fun k_ hk => hk.2.1)); have HB4 := Aside0.mk (below_step HB3.out hb); have BK4 := Aside0.mk (blk_below BK3.out hb); have BR4 := Aside0.mk (blk_below BR3.out hb); have HRc4 : Aside0 (Rch w4 w1.heap.size) := ⟨by obtain ⟨cs, p1, p2⟩ := HR3.out; exact ⟨cs, blk_below p1 hb, p2⟩⟩; have HS4 : Aside0 (w3.heap.size ≤ w4.heap.size) := ⟨hb.size⟩; have c40 := (blk_cell BK4.out 0).trans rfl; have c41 := (blk_cell BK4.out 1).trans rfl; clear hb ho))
    have HN1 : Aside0 (w.heap.size + 1 < w1.heap.size) := ⟨blk_lt BR1.out⟩
    have HN3 : Aside0 (w1.heap.size < w3.heap.size) := ⟨by obtain ⟨cs, p1, p2⟩ := HR3.out; exact blk_lt p1⟩
    clear c10 c11 c30 c31 HB1 BK1 BR1 HB3 BK3 BR3 HR3
    go_wp2
    go_loopg [7, 8] l0_1.length (fun n v7 v8 w' => ∃ (i : Nat) (cs : List S25) (A7 : Option Addr) (c7 : Nat), v7 = .slice A7 cs.length c7 ∧ v8 = .int .i64 i ∧ Aside0 (i + n = cs.length ∧ cs.length ≤ 6 ∧ ∀ x ∈ cs, okA a0_0 x.f0 x.f1) ∧ Aside0 (hardF a0_0 n cs i = r2) ∧ Aside0 (Kd.R k25 25 w' w.heap.size (fun k_ => w3.heap.size ≤ k_) (.slice A7 cs.length c7) cs) ∧ Aside0 (w'.heap[w.heap.size]? = some (.cells #[.int .i64 a0_0, .slice A0_1 l0_1.length c0_1] 35 (0, 0))) ∧ Aside0 (w'.heap[w.heap.size + 1]? = some (.cells #[.int .i64 0, .slice none 0 0] 35 (0, 0))) ∧ Aside0 (Rch w' w1.heap.size) ∧ Aside0 (w3.heap.size ≤ w'.heap.size) ∧ Aside0 (Below w.heap.size w w'))
    case atStart => exact ⟨0, l0_1, A4, c4, rfl, rfl, ⟨by simp, HO.out.2.2.1, HO.out.2.2.2⟩, HR2, HO4, BK4, BR4, HRc4, HS4, HB4⟩
    case round =>
      clear c40 c41
      obtain ⟨i, cs, A7, c7, rfl, rfl, HI, HL, HO5, BP, BQ, HRc, HSr, HBr⟩ := hrel
      have c0 := (blk_cell BP.out 0).trans rfl
      have c1 := (blk_cell BP.out 1).trans rfl
      by_cases hlt : i < cs.length
      · have d1 : decide (i < cs.length) = true := decide_eq_true hlt
        obtain ⟨k1, rfl⟩ : ∃ k1, gk = k1 + 1 := ⟨gk - 1, by have := HI.out; omega⟩
        have w2 : IntKind.i64.wrap ((i : Int) + 1) = ((i + 1 : Nat) : Int) := by rw [Hw.wrap_w (by have := HI.out; omega) (by have := HI.out; omega)]; omega
        obtain ⟨y, hy⟩ : ∃ y : List S25, y = woutH cs i := ⟨_, rfl⟩
        have hyl : y.length = cs.length - 1 := by rw [hy]; exact woutH_len hlt
        have HYl := Aside0.mk hyl
        have HLt := Aside0.mk hlt
        have HWo : Aside0 (impl_withoutClue.f cs (i : Int) = some y) := ⟨by unfold impl_withoutClue.f; rw [if_pos (by have := HI.out; omega), Int.toNat_natCast, hy]; rfl⟩
        have HYm : Aside0 (∀ x ∈ y, okA a0_0 x.f0 x.f1) := ⟨fun x hx => HI.out.2.2 x (by rw [hy] at hx; rcases List.mem_append.1 hx with h_ | h_; exact List.mem_of_mem_take h_; exact List.mem_of_mem_drop h_)⟩
        obtain ⟨z, hz⟩ : ∃ z : Int, z = ((solsF a0_0 y).length : Int) := ⟨_, rfl⟩
        have hz' := hz.symm
        have HL2 : Aside0 (if z = 1 then hardF a0_0 k1 y i = r2 else hardF a0_0 k1 cs (i + 1) = r2) := ⟨by
          have h_ := HL.out
          rw [hardF, ← hy, ← hz] at h_
          split
          · rename_i e_; rw [if_pos e_] at h_; exact h_
          · rename_i e_; rw [if_neg e_] at h_; exact h_⟩
        clear hy hyl hlt HL hz
        by_cases hc : z = 1
        · have d2 : (z == 1) = true := beq_iff_eq.2 hc
          rw [if_pos hc] at HL2
          go_wp2_with (first
            | (go_at_call 94; refine (impl_withoutClue.calls A7 c7 cs (i : Int) y wr (Kd.R_reads' HO5.out).2.2 (Kd.R_reads' HO5.out).2.1 HWo.out).mono ?_; rintro e w5 ⟨v5_, rfl, ho5, hb⟩; obtain ⟨A5, c5, rfl⟩ := Kd.R_slice ho5; have HY5 := Aside0.mk (Kd.R_mono (ok' := fun k_ => w3.heap.size ≤ k_) (Kd.R_lower (Kd.R_bound ho5) (below_size HBr.out)) (fun k_ hk => Nat.le_trans HSr.out hk.2.1)); have HB5 := Aside0.mk (below_step HBr.out hb); have BP5 := Aside0.mk (blk_below BP.out hb); have BQ5 := Aside0.mk (blk_below BQ.out hb); have HRc5 : Aside0 (Rch w5 w1.heap.size) := ⟨by obtain ⟨cs_, p1, p2⟩ := HRc.out; exact ⟨cs_, blk_below p1 hb, p2⟩⟩; have HO5' := Aside0.mk (Kd.R_below HO5.out hb); have HS5 : Aside0 (w3.heap.size ≤ w5.heap.size) := ⟨Nat.le_trans HSr.out hb.size⟩; have c50 := (blk_cell BP5.out 0).trans rfl; have c51 := (blk_cell BP5.out 1).trans rfl; clear hb ho5)
            | (go_at_call 101; refine (solutions.calls w5 w1.heap.size a0_0 A0_1 A5 l0_1.length c0_1 c5 y HRc5.out (Kd.R_reads' HY5.out).2.2 (Kd.R_reads' HY5.out).2.1 (by have := HO.out; omega) (by have := HO.out; omega) HYm.out).mono ?_; rintro e w6 ⟨v6_, rfl, ho6, hb⟩; obtain ⟨A6, c6, rfl⟩ := Kd.R_slice ho6; have HB6 := Aside0.mk (below_step HB5.out hb); have BP6 := Aside0.mk (blk_below BP5.out hb); have BQ6 := Aside0.mk (blk_below BQ5.out hb); have HRc6 : Aside0 (Rch w6 w1.heap.size) := ⟨by obtain ⟨cs_, p1, p2⟩ := HRc5.out; exact ⟨cs_, blk_below p1 hb, p2⟩⟩; have HO6 := Aside0.mk (Kd.R_below HO5'.out hb); have HY6 := Aside0.mk (Kd.R_below HY5.out hb); have HS6 : Aside0 (w3.heap.size ≤ w6.heap.size) := ⟨Nat.le_trans HS5.out hb.size⟩; clear hb ho6))
          go_roundg k1
          case measure => omega
          case rel => exact ⟨i, y, A5, c5, rfl, rfl, ⟨by have h1_ := HI.out; have h2_ := HYl.out; have h3_ := HLt.out; omega, by have h1_ := HI.out; have h2_ := HYl.out; omega, HYm.out⟩, HL2, HY6, BP6, BQ6, HRc6, HS6, HB6⟩
        · have d2 : (z == 1) = false := beq_eq_false_iff_ne.2 hc
          rw [if_neg hc] at HL2
          go_wp2_with (first
            | (go_at_call 94; refine (impl_withoutClue.calls A7 c7 cs (i : Int) y wr (Kd.R_reads' HO5.out).2.2 (Kd.R_reads' HO5.out).2.1 HWo.out).mono ?_; rintro e w5 ⟨v5_, rfl, ho5, hb⟩; obtain ⟨A5, c5, rfl⟩ := Kd.R_slice ho5; have HY5 := Aside0.mk (Kd.R_mono (ok' := fun k_ => w3.heap.size ≤ k_) (Kd.R_lower (Kd.R_bound ho5) (below_size HBr.out)) (fun k_ hk => Nat.le_trans HSr.out hk.2.1)); have HB5 := Aside0.mk (below_step HBr.out hb); have BP5 := Aside0.mk (blk_below BP.out hb); have BQ5 := Aside0.mk (blk_below BQ.out hb); have HRc5 : Aside0 (Rch w5 w1.heap.size) := ⟨by obtain ⟨cs_, p1, p2⟩ := HRc.out; exact ⟨cs_, blk_below p1 hb, p2⟩⟩; have HO5' := Aside0.mk (Kd.R_below HO5.out hb); have HS5 : Aside0 (w3.heap.size ≤ w5.heap.size) := ⟨Nat.le_trans HSr.out hb.size⟩; have c50 := (blk_cell BP5.out 0).trans rfl; have c51 := (blk_cell BP5.out 1).trans rfl; clear hb ho5)
            | (go_at_call 101; refine (solutions.calls w5 w1.heap.size a0_0 A0_1 A5 l0_1.length c0_1 c5 y HRc5.out (Kd.R_reads' HY5.out).2.2 (Kd.R_reads' HY5.out).2.1 (by have := HO.out; omega) (by have := HO.out; omega) HYm.out).mono ?_; rintro e w6 ⟨v6_, rfl, ho6, hb⟩; obtain ⟨A6, c6, rfl⟩ := Kd.R_slice ho6; have HB6 := Aside0.mk (below_step HB5.out hb); have BP6 := Aside0.mk (blk_below BP5.out hb); have BQ6 := Aside0.mk (blk_below BQ5.out hb); have HRc6 : Aside0 (Rch w6 w1.heap.size) := ⟨by obtain ⟨cs_, p1, p2⟩ := HRc5.out; exact ⟨cs_, blk_below p1 hb, p2⟩⟩; have HO6 := Aside0.mk (Kd.R_below HO5'.out hb); have HY6 := Aside0.mk (Kd.R_below HY5.out hb); have HS6 : Aside0 (w3.heap.size ≤ w6.heap.size) := ⟨Nat.le_trans HS5.out hb.size⟩; clear hb ho6))
          go_roundg k1
          case measure => omega
          case rel => exact ⟨i + 1, cs, A7, c7, rfl, rfl, ⟨by have h1_ := HI.out; omega, HI.out.2.1, HI.out.2.2⟩, HL2, HO6, BP6, BQ6, HRc6, HS6, HB6⟩
      · have d1 : decide (i < cs.length) = false := decide_eq_false hlt
        have HL2 : Aside0 (cs = r2) := ⟨by have := HI.out; rw [← HL.out, show gk = 0 by omega]; rfl⟩
        have c2 := (blk_cell BQ.out 0).trans rfl
        have c3 := (blk_cell BQ.out 1).trans rfl
        have f2 := blk_frozen BQ.out 0
        have f3 := blk_frozen BQ.out 1
        clear hlt
        go_wp2
        refine bodyPost_ret (results_ct rfl _ _ (w.heap.size + 1) 35 #[.int .i64 a0_0, .slice A7 cs.length c7] (0, 0) _ rfl (by refine blk_put (cs := #[.int .i64 a0_0, .slice none 0 0]) ?_ 1 _ rfl; exact blk_put BQ.out 0 _ rfl) Try.underlying35 rfl (by kernel_rfl)) rfl ?_
        refine ⟨_, rfl, ?_, below_set (below_set HBr.out (by omega)) (by omega)⟩
        rw [← HL2.out]
        exact Kd.R_mono (Kd.R_far (Kd.R_far HO5.out (fun k_ hk => by have h1_ := HN1.out; have h2_ := HN3.out; simp; omega) _) (fun k_ hk => by have h1_ := HN1.out; have h2_ := HN3.out; simp; omega) _) (fun _ _ => trivial)
  · rw [if_neg hb12] at h
    simp only [Option.some.injEq, Prod.mk.injEq] at h
    obtain ⟨rfl, rfl, rfl⟩ := h
    clear hq
    have hd : (if b2 = true then b1 else false) = false := by cases b1 <;> cases b2 <;> simp_all
    cases b2 with
    | false =>
      clear hd hb12
      go_enter Try.func58, Try.ntmps58
      go_wp2_with (first | (go_at_call 41; refine (impl_IsSolved.calls _ _ _ _ _ _ _ (Kd.C_below HR.out HB.out) HC.out HQ.out).mono ?_; rintro e w1 ⟨rfl, hb⟩; have HB1 := Aside0.mk (below_step HB.out hb); have BR1 := Aside0.mk (blk_below BR.out hb); have c10 := (blk_cell BR1.out 0).trans rfl; have c11 := (blk_cell BR1.out 1).trans rfl; have f10 := blk_frozen BR1.out 0; have f11 := blk_frozen BR1.out 1; clear hb))
      refine bodyPost_ret (results_ct rfl _ _ (w.heap.size + 1) 35 #[.int .i64 0, .slice none 0 0] (0, 0) _ rfl (by refine blk_put (cs := #[.int .i64 0, .slice none 0 0]) ?_ 1 _ rfl; exact blk_put BR1.out 0 _ rfl) Try.underlying35 rfl (by kernel_rfl)) rfl ?_
      exact ⟨_, rfl, Kd.R_nil _ _ _ _ _, below_set (below_set HB1.out (by omega)) (by omega)⟩
    | true =>
      cases b1 with
      | true => exact absurd rfl hb12
      | false =>
        clear hd hb12
        go_enter Try.func58, Try.ntmps58
        go_wp2_with (first | (go_at_call 41; refine (impl_IsSolved.calls _ _ _ _ _ _ _ (Kd.C_below HR.out HB.out) HC.out HQ.out).mono ?_; rintro e w1 ⟨rfl, hb⟩; have HB1 := Aside0.mk (below_step HB.out hb); have BR1 := Aside0.mk (blk_below BR.out hb); have c10 := (blk_cell BR1.out 0).trans rfl; have c11 := (blk_cell BR1.out 1).trans rfl; have f10 := blk_frozen BR1.out 0; have f11 := blk_frozen BR1.out 1; clear hb))
        refine bodyPost_ret (results_ct rfl _ _ (w.heap.size + 1) 35 #[.int .i64 0, .slice none 0 0] (0, 0) _ rfl (by refine blk_put (cs := #[.int .i64 0, .slice none 0 0]) ?_ 1 _ rfl; exact blk_put BR1.out 0 _ rfl) Try.underlying35 rfl (by kernel_rfl)) rfl ?_
        exact ⟨_, rfl, Kd.R_nil _ _ _ _ _, below_set (below_set HB1.out (by omega)) (by omega)⟩


end Go.Proofs.Ytbkplokoomodcaa.H
