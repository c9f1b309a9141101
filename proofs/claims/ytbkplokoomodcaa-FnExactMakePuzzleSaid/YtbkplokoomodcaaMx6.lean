/- Plain Lean functions with the answers of Go functions, and proofs of it: printed by a program of this session (pr.py) over the kit's print, with hand-written parts. -/
import Derived.Test.YtbkplokoomodcaaMx0
import Derived.Test.YtbkplokoomodcaaMx4
import Derived.Test.YtbkplokoomodcaaMx5
namespace Go.Proofs.Ytbkplokoomodcaa.M
open Go.RowKit Go.Proofs.YtbkplokoomodcaaW.PrintWords Go.Proofs.YtbkplokoomodcaaW.PrintLast Go.Proofs.YtbkplokoomodcaaW.PrintMore
attribute [local go_sem] max2_int min2_int max_two min_two max_three min_three max_four min_four   -- for this text's walks alone
set_option linter.unusedVariables false
set_option linter.unusedSimpArgs false

-- FOR impl.play
-- CALLS (*impl.reaches).best ; impl.countBroken
def playL (br : Int) : Nat → Int → Int → Int → List S121
  | 0, _, _, _ => []
  | n + 1, e, lo, fl => if 0 < fl then ⟨lo + bestF e.toNat fl, decide (br < lo + bestF e.toNat fl)⟩ :: (if br < lo + bestF e.toNat fl then playL br n (e - 1) lo (bestF e.toNat fl - 1) else playL br n e (lo + bestF e.toNat fl) (fl - bestF e.toNat fl)) else []
theorem playL_done (br : Int) (n : Nat) (e lo fl : Int) (h : ¬ 0 < fl) : playL br n e lo fl = [] := by
  cases n with
  | zero => rfl
  | succ n => exact if_neg h
theorem bestF_lo (e : Nat) (fl : Int) : 1 ≤ bestF e fl := by unfold bestF; omega
theorem bestF_hi (e : Nat) (fl : Int) (h : 0 < fl) : bestF e fl ≤ fl := by have := reachAt_lo (few e fl - 1) e; unfold bestF; omega
theorem reachAt_one (t : Nat) (h : t ≤ 1000) : reachAt t 1 = t := by
  induction t with
  | zero => rfl
  | succ t ih =>
    have h1 := ih (by omega)
    have h0 : reachAt t 0 = 0 := by cases t <;> simp [reachAt]
    rw [reachAt.eq_3, h0, h1]; omega
theorem bestF_one (fl : Int) (h0 : 0 < fl) (h1 : fl ≤ 1000) : bestF 1 fl = 1 := by
  have h2 : few 1 fl = fl.toNat := few_is 1 fl fl.toNat (by omega) (fun s hs => by rw [reachAt_one s (by omega)]; omega) (.inr (by rw [reachAt_one _ (by omega)]; omega))
  unfold bestF
  rw [h2, reachAt_one _ (by omega)]
  omega
set_option maxHeartbeats 8000000 in
set_option maxRecDepth 1000000 in
theorem play.calls (w : World) (b : Nat) (e0 fl0 br : Int) (hR : Rch w b) (he0 : 1 ≤ e0) (he1 : e0 ≤ 10) (hf0 : 0 ≤ fl0) (hf1 : fl0 ≤ 1000) :
    Calls Try.prog 118 #[.int .i64 e0, .int .i64 fl0, .int .i64 br, .func (.func 119) #[.pointer (some ⟨b, 0, none⟩)] #[]] w fun e w' => ∃ v0_ : Value, e = .returned (v0_) ∧ Kd.R k121 121 w' w.heap.size (fun _ => True) v0_ (playL br fl0.toNat e0 0 fl0) ∧ Below w.heap.size w w' := by
  have hu := Try.underlying121
  have HR := Aside0.mk hR
  have HE := Aside0.mk (And.intro (And.intro he0 he1) (And.intro hf0 hf1))
  clear hR he0 he1 hf0 hf1
  go_enter Try.func118, Try.ntmps118
  go_wp2
  go_loopg [0, 1, 9, 10] fl0.toNat (fun n v0 v1 v9 v10 w' => ∃ (e fl lo : Int) (xs : List S121), v0 = .int .i64 e ∧ v1 = .int .i64 fl ∧ v10 = .int .i64 lo ∧ Aside0 (0 ≤ lo ∧ 0 ≤ fl ∧ lo + fl ≤ 1000 ∧ 0 ≤ e ∧ e ≤ 10 ∧ (0 < fl → 1 ≤ e) ∧ fl ≤ n ∧ xs.length + n ≤ 1000) ∧ Aside0 (xs ++ playL br n e lo fl = playL br fl0.toNat e0 0 fl0) ∧ Aside0 (Kd.R k121 121 w' w.heap.size (fun _ => True) v9 xs) ∧ Aside0 (Below w.heap.size w w'))
  case atStart => exact ⟨e0, fl0, 0, [], rfl, rfl, rfl, ⟨by have := HE.out; simp; omega⟩, ⟨rfl⟩, ⟨Hw.R_empty _ _ _ _ _ (Nat.le_refl _) trivial⟩, ⟨by repeat (first | exact Below.refl _ _ | apply below_alloc | apply below_drew1)⟩⟩
  case round =>
    obtain ⟨e, fl, lo, xs, rfl, rfl, rfl, HK, HL, HO, HB⟩ := hrel
    by_cases hlt : 0 < fl
    · have d1 : decide (0 < fl) = true := decide_eq_true hlt
      obtain ⟨k1, rfl⟩ : ∃ k1, gk = k1 + 1 := ⟨gk - 1, by have := HK.out; omega⟩
      obtain ⟨f, hf⟩ : ∃ f : Int, bestF e.toNat fl = f := ⟨_, rfl⟩
      have hf1 : 1 ≤ f := by rw [← hf]; exact bestF_lo _ _
      have hf2 : f ≤ fl := by rw [← hf]; exact bestF_hi _ _ hlt
      have hf3 : e = 1 → f = 1 := by intro h_; rw [← hf, h_]; exact bestF_one fl hlt (by have := HK.out; omega)
      obtain ⟨s, hs⟩ : ∃ s : Int, s = lo + f := ⟨_, rfl⟩
      have w1 : IntKind.i64.wrap (lo + f) = s := by rw [hs]; exact Hw.wrap_w (by have := HK.out; omega) (by have := HK.out; omega)
      obtain ⟨y, hy⟩ : ∃ y : List S121, y = xs ++ [⟨s, decide (br < s)⟩] := ⟨_, rfl⟩
      have HBe : Aside0 (∀ W, Below w.heap.size w W → Calls Try.prog 119 (#[.pointer (some ⟨b, 0, none⟩)] ++ #[.int .i64 e, .int .i64 fl]) W fun en w' => en = .returned (.int .i64 f) ∧ w' = W.drew) := ⟨fun W hW => by rw [← hf]; exact best.calls W b e fl (by obtain ⟨cs, h1, h2⟩ := HR.out; exact ⟨cs, blk_below h1 hW, h2⟩) (by have := HK.out; omega) (by have := HK.out; omega) hlt (by have := HK.out; omega)⟩
      have HL2 : Aside0 (y ++ (if br < s then playL br k1 (e - 1) lo (f - 1) else playL br k1 e s (fl - f)) = playL br fl0.toNat e0 0 fl0) := ⟨by have h_ := HL.out; rw [playL, if_pos hlt, hf, ← hs] at h_; rw [hy, ← h_]; simp⟩
      have HF := Aside0.mk (And.intro hf1 (And.intro hf2 (And.intro hf3 (And.intro hs hlt))))
      have Ny := Aside0.mk hy
      clear hf hf1 hf2 hf3 hs hy hlt HL
      by_cases hc : br < s
      · have d2 : decide (br < s) = true := decide_eq_true hc
        rw [if_pos hc] at HL2
        rw [d2] at Ny
        have HC := Aside0.mk hc
        have w2 : IntKind.i64.wrap (e - 1) = e - 1 := Hw.wrap_w (by have := HK.out; omega) (by have := HK.out; omega)
        have w3 : IntKind.i64.wrap (f - 1) = f - 1 := Hw.wrap_w (by have := HF.out; have := HK.out; omega) (by have := HF.out; have := HK.out; omega)
        clear hc
        go_wp2_with (first | ((with_reducible refine Hw.gateV (t := 16) rfl ?_); go_loud (refine Hw.goesM (some 19) rfl rfl Try.func119 (by kernel_rfl) rfl #[.int .i64 e, .int .i64 fl] rfl rfl (by simp only [List.map_toArray, List.map_cons, List.map_nil]; rfl) ?_); (refine (HBe.out _ HB.out).mono ?_); rintro en w1 ⟨rfl, hw⟩; have hb : Below w.heap.size w w1 := (by rw [hw]; exact below_drew1 HB.out); have ho : Kd.R k121 121 w1 w.heap.size (fun _ => True) u9 xs := (by rw [hw]; exact Kd.R_drew HO.out); clear hw HB HO; have HB := Aside0.mk hb; have HO := Aside0.mk ho; clear hb ho; refine ⟨_, rfl, ?_⟩) | ((with_reducible refine gate_builtin (b := .append) (xs := #[.tmp 25, .tmp 31]) rfl ?_); at_builtin; refine Kd.R_append k121 (w0 := w) w.heap.size rfl (.tmp 25) (.tmp 31) 105 121 (.agg #[(.int .i64 0), (.bool false)]) 16 rfl Try.underlying105 info121 rfl (by decide) (by omega) u9 xs (⟨s, true⟩ : S121) [.int .i64 s, .bool true] (fun _ => True) (fun _ => False) rfl rfl ?aP (fun _ hk => hk.elim) ?aF ?aO ?aB ?aS ?aL ?_; (case aP => exact k121_mkM _ _ _ (⟨s, true⟩ : S121)); (case aB => exact (by repeat (first | (with_reducible first | exact HB.out | apply below_alloc | apply pw_below_drewN | apply below_drew1) | exact HB.out))); (case aF => exact (fun _ _ => trivial)); (case aO => exact (by (with_reducible repeat (first | apply Kd.R_alloc | apply Kd.R_drewN | apply Kd.R_drew)); exact HO.out)); (case aS => exact (below_size (by repeat (first | (with_reducible first | exact HB.out | apply below_alloc | apply pw_below_drewN | apply below_drew1) | exact HB.out)))); (case aL => have := HK.out; omega); intro v2 w2 ho hb hg hat; rw [← Ny.out] at ho; clear HB HO; have HB := Aside0.mk hb; have HO := Aside0.mk ho; clear ho hb hg hat))
        go_roundg k1
        case measure => omega
        case rel => exact ⟨e - 1, f - 1, lo, y, rfl, rfl, rfl, ⟨by have := HK.out; have := HF.out; have h_ : y.length = xs.length + 1 := (by rw [Ny.out]; simp); omega⟩, HL2, ⟨HO.out⟩, ⟨HB.out⟩⟩
      · have d2 : decide (br < s) = false := decide_eq_false hc
        rw [if_neg hc] at HL2
        rw [d2] at Ny
        have HC := Aside0.mk hc
        have w2 : IntKind.i64.wrap (fl - f) = fl - f := Hw.wrap_w (by have := HF.out; have := HK.out; omega) (by have := HF.out; have := HK.out; omega)
        clear hc
        go_wp2_with (first | ((with_reducible refine Hw.gateV (t := 16) rfl ?_); go_loud (refine Hw.goesM (some 19) rfl rfl Try.func119 (by kernel_rfl) rfl #[.int .i64 e, .int .i64 fl] rfl rfl (by simp only [List.map_toArray, List.map_cons, List.map_nil]; rfl) ?_); (refine (HBe.out _ HB.out).mono ?_); rintro en w1 ⟨rfl, hw⟩; have hb : Below w.heap.size w w1 := (by rw [hw]; exact below_drew1 HB.out); have ho : Kd.R k121 121 w1 w.heap.size (fun _ => True) u9 xs := (by rw [hw]; exact Kd.R_drew HO.out); clear hw HB HO; have HB := Aside0.mk hb; have HO := Aside0.mk ho; clear hb ho; refine ⟨_, rfl, ?_⟩) | ((with_reducible refine gate_builtin (b := .append) (xs := #[.tmp 25, .tmp 31]) rfl ?_); at_builtin; refine Kd.R_append k121 (w0 := w) w.heap.size rfl (.tmp 25) (.tmp 31) 105 121 (.agg #[(.int .i64 0), (.bool false)]) 16 rfl Try.underlying105 info121 rfl (by decide) (by omega) u9 xs (⟨s, false⟩ : S121) [.int .i64 s, .bool false] (fun _ => True) (fun _ => False) rfl rfl ?aP (fun _ hk => hk.elim) ?aF ?aO ?aB ?aS ?aL ?_; (case aP => exact k121_mkM _ _ _ (⟨s, false⟩ : S121)); (case aB => exact (by repeat (first | (with_reducible first | exact HB.out | apply below_alloc | apply pw_below_drewN | apply below_drew1) | exact HB.out))); (case aF => exact (fun _ _ => trivial)); (case aO => exact (by (with_reducible repeat (first | apply Kd.R_alloc | apply Kd.R_drewN | apply Kd.R_drew)); exact HO.out)); (case aS => exact (below_size (by repeat (first | (with_reducible first | exact HB.out | apply below_alloc | apply pw_below_drewN | apply below_drew1) | exact HB.out)))); (case aL => have := HK.out; omega); intro v2 w2 ho hb hg hat; rw [← Ny.out] at ho; clear HB HO; have HB := Aside0.mk hb; have HO := Aside0.mk ho; clear ho hb hg hat))
        go_roundg k1
        case measure => omega
        case rel => exact ⟨e, fl - f, s, y, rfl, rfl, rfl, ⟨by have := HK.out; have := HF.out; have h_ : y.length = xs.length + 1 := (by rw [Ny.out]; simp); omega⟩, HL2, ⟨HO.out⟩, ⟨HB.out⟩⟩
    · have d1 : decide (0 < fl) = false := decide_eq_false hlt
      have HL2 : Aside0 (xs = playL br fl0.toNat e0 0 fl0) := ⟨by rw [← HL.out, playL_done _ _ _ _ _ hlt]; simp⟩
      clear hlt
      go_wp2
      go_ret
      exact ⟨_, rfl, by rw [← HL2.out]; exact HO.out, HB.out⟩


-- FOR (*impl.reaches).asHas
-- CALLS impl.play ; impl.countBroken ; impl.IsClue ; impl.IsPuzzle
def brokenN (l : List S121) : Nat := (l.filter (fun d => d.f1)).length
theorem brokenN_cons (d : S121) (l : List S121) : brokenN (d :: l) = (if d.f1 then 1 else 0) + brokenN l := by
  unfold brokenN
  rw [List.filter_cons]
  split <;> simp [*] <;> omega
theorem brokenN_le (l : List S121) : brokenN l ≤ l.length := List.length_filter_le _ _
theorem countBroken_l (l : List S121) (hl : l.length ≤ 1000000) (n i : Nat) (x : Int) (hi : i + n = l.length) (hx0 : 0 ≤ x) (hx1 : x + n ≤ 1000000) : impl_countBroken.l0 (n + 1) x l (l.length : Int) (i : Int) = some (x + brokenN (l.drop i)) := by
  induction n generalizing i x with
  | zero =>
    rw [impl_countBroken.l0, if_neg (by omega), List.drop_of_length_le (by omega)]
    simp [brokenN]
  | succ n ih =>
    have hlt : i < l.length := by omega
    have hr : rd_T121 l (i : Int) = l[i] := by simp [rd_T121, hlt]
    rw [impl_countBroken.l0, if_pos (by omega), if_pos (by omega), if_pos (by omega), hr, List.drop_eq_getElem_cons hlt, brokenN_cons, Hw.wrap_id (by omega) (by omega), Hw.wrap_id (by omega) (by omega)]
    have h1 := ih (i + 1) (x + 1) (by omega) (by omega) (by omega)
    have h2 := ih (i + 1) x (by omega) (by omega) (by omega)
    simp only [Int.natCast_add, Int.natCast_one] at h1 h2
    split
    · rename_i h; rw [h1]; congr 1; simp [h]; omega
    · rename_i h; rw [h2]; congr 1; simp [h]
theorem countBroken_some (l : List S121) (hl : l.length ≤ 1000000) : impl_countBroken.f (l.length + 1) l = some (brokenN l : Int) := by
  have := countBroken_l l hl l.length 0 0 (by omega) (by omega) (by omega)
  simpa [impl_countBroken.f] using this
theorem playL_len (br : Int) (n : Nat) (e lo fl : Int) : (playL br n e lo fl).length ≤ n := by
  induction n generalizing e lo fl with
  | zero => exact Nat.le_refl _
  | succ n ih =>
    unfold playL
    split
    · rw [List.length_cons]
      split
      · exact Nat.succ_le_succ (ih _ _ _)
      · exact Nat.succ_le_succ (ih _ _ _)
    · exact Nat.zero_le _
def asHasV (fl k a br : Int) : Int := if k = 0 then (if br < a then 1 else 0) else if k = 1 then br.tmod a else if k = 2 then (playL br fl.toNat a 0 fl).length else if k = 3 then brokenN (playL br fl.toNat a 0 fl) else max (br - a) (a - br)
def okA (fl k a : Int) : Prop := 0 ≤ k ∧ k ≤ 4 ∧ (k = 1 → 2 ≤ a) ∧ (k = 2 ∨ k = 3 → 1 ≤ a ∧ a ≤ 10) ∧ (k = 4 → 0 ≤ a ∧ a ≤ fl)
set_option maxHeartbeats 8000000 in
set_option maxRecDepth 1000000 in
theorem asHas.calls (w : World) (b : Nat) (fl k a v br : Int) (hR : Rch w b) (hk : okA fl k a) (hf0 : 0 ≤ fl) (hf1 : fl ≤ 1000) (hb0 : 0 ≤ br) (hb1 : br ≤ fl) :
    Calls Try.prog 98 #[.pointer (some ⟨b, 0, none⟩), .int .i64 fl, .agg #[.int .i64 k, .int .i64 a, .int .i64 v], .int .i64 br] w fun e w' => e = .returned (.agg #[.int .i64 k, .int .i64 a, .int .i64 (asHasV fl k a br)]) ∧ Below w.heap.size w w' := by
  have HK := Aside0.mk hk
  have HF := Aside0.mk (And.intro hf0 (And.intro hf1 (And.intro hb0 hb1)))
  have HR := Aside0.mk hR
  obtain ⟨k0, k1, k2, k3, k4⟩ := hk
  clear hR hf0 hf1 hb0 hb1
  rcases (by omega : k = 0 ∨ k = 1 ∨ k = 2 ∨ k = 3 ∨ k = 4) with rfl | rfl | rfl | rfl | rfl
  · clear k0 k1 k2 k3 k4
    by_cases hc : br < a
    · have HV : Aside0 (asHasV fl 0 a br = 1) := ⟨by unfold asHasV; rw [if_pos rfl, if_pos hc]⟩
      have d1 : decide (br < a) = true := decide_eq_true hc
      clear hc
      go_enter Try.func98, Try.ntmps98
      go_wp2
      refine bodyPost_ret (results_cell_row rfl _ _ (w.heap.size + 1) 25 #[.int .i64 0, .int .i64 a, .int .i64 1] (0, 0) _ rfl (by have h_ := blk_new (w.alloc (Obj.cells #[Value.int IntKind.i64 0, Value.int IntKind.i64 a, Value.int IntKind.i64 1] 25)) (Obj.cells #[Value.int IntKind.i64 0, Value.int IntKind.i64 a, Value.int IntKind.i64 1] 25); rwa [World.size_alloc] at h_) Try.underlying25 rfl (by kernel_rfl)) rfl ⟨by rw [HV.out], below_alloc (below_alloc (Below.refl _ _) _) _⟩
    · have HV : Aside0 (asHasV fl 0 a br = 0) := ⟨by unfold asHasV; rw [if_pos rfl, if_neg hc]⟩
      have d1 : decide (br < a) = false := decide_eq_false hc
      clear hc
      go_enter Try.func98, Try.ntmps98
      go_wp2
      refine bodyPost_ret (results_cell_row rfl _ _ (w.heap.size + 1) 25 #[.int .i64 0, .int .i64 a, .int .i64 0] (0, 0) _ rfl (by have h_ := blk_new (w.alloc (Obj.cells #[Value.int IntKind.i64 0, Value.int IntKind.i64 a, Value.int IntKind.i64 0] 25)) (Obj.cells #[Value.int IntKind.i64 0, Value.int IntKind.i64 a, Value.int IntKind.i64 0] 25); rwa [World.size_alloc] at h_) Try.underlying25 rfl (by kernel_rfl)) rfl ⟨by rw [HV.out], below_alloc (below_alloc (Below.refl _ _) _) _⟩
  · have hne : a ≠ 0 := by have := k2 rfl; omega
    have hne' : (a = 0) = False := eq_false hne
    have hd : decide (a = 0) = false := decide_eq_false hne
    obtain ⟨m, hm⟩ : ∃ m : Int, m = br.tmod a := ⟨_, rfl⟩
    have hw : IntKind.i64.wrap (br.tmod a) = m := by
      rw [← hm]
      have h2 := k2 rfl
      have h3 := HF.out
      have h4 := Int.tmod_nonneg a h3.2.2.1
      have h5 := Int.tmod_lt_of_pos br (show 0 < a by omega)
      have h6 : br.tmod a ≤ br := by
        rcases Int.lt_or_le br a with h | h
        · rw [Int.tmod_eq_emod_of_nonneg h3.2.2.1, Int.emod_eq_of_lt h3.2.2.1 h]; exact Int.le_refl _
        · omega
      exact Hw.wrap_w (by omega) (by omega)
    have hm2 : br.tmod a = m := hm.symm
    have HV : Aside0 (asHasV fl 1 a br = m) := ⟨by unfold asHasV; rw [if_neg (by decide), if_pos rfl, hm]⟩
    clear hm k0 k1 k2 k3 k4
    go_enter Try.func98, Try.ntmps98
    go_wp2
    refine bodyPost_ret (results_cell_row rfl _ _ (w.heap.size + 1) 25 #[.int .i64 1, .int .i64 a, .int .i64 m] (0, 0) _ rfl (by have h_ := blk_new (w.alloc (Obj.cells #[Value.int IntKind.i64 1, Value.int IntKind.i64 a, Value.int IntKind.i64 m] 25)) (Obj.cells #[Value.int IntKind.i64 1, Value.int IntKind.i64 a, Value.int IntKind.i64 m] 25); rwa [World.size_alloc] at h_) Try.underlying25 rfl (by kernel_rfl)) rfl ⟨by rw [HV.out], below_alloc (below_alloc (Below.refl _ _) _) _⟩
  · obtain ⟨q0, q1⟩ := k3 (by omega)
    clear k0 k1 k2 k3 k4
    have HV : Aside0 (asHasV fl 2 a br = ((playL br fl.toNat a 0 fl).length : Int)) := ⟨by unfold asHasV; rw [if_neg (by decide), if_neg (by decide), if_pos rfl]⟩
    obtain ⟨L, hL⟩ : ∃ L, L = playL br fl.toNat a 0 fl := ⟨_, rfl⟩
    have HLn : Aside0 (L.length ≤ 1000) := ⟨by rw [hL]; have := playL_len br fl.toNat a 0 fl; have := HF.out; omega⟩
    have HCB : Aside0 (impl_countBroken.f (L.length + 1) L = some (brokenN L : Int)) := ⟨countBroken_some L (by have := HLn.out; omega)⟩
    have HP : Aside0 (∀ W, Below w.heap.size w W → Calls Try.prog 118 #[.int .i64 a, .int .i64 fl, .int .i64 br, .func (.func 119) #[.pointer (some ⟨b, 0, none⟩)] #[]] W fun e w' => ∃ v0_ : Value, e = .returned (v0_) ∧ Kd.R k121 121 w' W.heap.size (fun _ => True) v0_ L ∧ Below W.heap.size W w') := ⟨fun W hW => by
      obtain ⟨cs, h1, h2⟩ := HR.out
      rw [hL]
      exact play.calls W b a fl br ⟨cs, blk_below h1 hW, h2⟩ q0 q1 HF.out.1 HF.out.2.1⟩
    rw [← hL] at HV
    obtain ⟨n, hn⟩ : ∃ n : Int, n = (L.length : Int) := ⟨_, rfl⟩
    rw [← hn] at HV
    have hn2 := hn.symm
    clear hL q0 q1 hn
    have hmf : ∀ (fn : Fn) (first cap : Array Value) (w : World), (Instr.makeFunc fn first cap).run Try.prog w = .ok (.func fn first cap) w := fun _ _ _ _ => rfl
    have hB0 : Aside0 (Below w.heap.size w ((w.alloc (Obj.cells #[Value.int IntKind.i64 2, Value.int IntKind.i64 a, Value.int IntKind.i64 v] 25)).alloc (Obj.cells #[Value.int IntKind.i64 0, Value.int IntKind.i64 0, Value.int IntKind.i64 0] 25))) := ⟨below_alloc (below_alloc (Below.refl _ _) _) _⟩
    have BK : Aside0 (((w.alloc (Obj.cells #[Value.int IntKind.i64 2, Value.int IntKind.i64 a, Value.int IntKind.i64 v] 25)).alloc (Obj.cells #[Value.int IntKind.i64 0, Value.int IntKind.i64 0, Value.int IntKind.i64 0] 25)).heap[w.heap.size]? = some (.cells #[Value.int IntKind.i64 2, Value.int IntKind.i64 a, Value.int IntKind.i64 v] 25 (0, 0))) := ⟨blk_alloc (blk_new _ _) _⟩
    have BJ : Aside0 (((w.alloc (Obj.cells #[Value.int IntKind.i64 2, Value.int IntKind.i64 a, Value.int IntKind.i64 v] 25)).alloc (Obj.cells #[Value.int IntKind.i64 0, Value.int IntKind.i64 0, Value.int IntKind.i64 0] 25)).heap[w.heap.size + 1]? = some (.cells #[Value.int IntKind.i64 0, Value.int IntKind.i64 0, Value.int IntKind.i64 0] 25 (0, 0))) := ⟨by have h_ := blk_new (w.alloc (Obj.cells #[Value.int IntKind.i64 2, Value.int IntKind.i64 a, Value.int IntKind.i64 v] 25)) (Obj.cells #[Value.int IntKind.i64 0, Value.int IntKind.i64 0, Value.int IntKind.i64 0] 25); rwa [World.size_alloc] at h_⟩
    go_enter Try.func98, Try.ntmps98
    go_wp2_with (first | (go_at_call 118; refine (HP.out _ hB0.out).mono ?_; rintro e w1 ⟨v1, rfl, hO, hb1⟩; obtain ⟨A1, c1, rfl⟩ := Kd.R_slice hO; have HO1 := Aside0.mk hO; have HB1 := Aside0.mk (below_step hB0.out hb1); have BK1 := Aside0.mk (blk_below BK.out hb1); have BJ1 := Aside0.mk (blk_below BJ.out hb1); have c10 := (blk_cell BK1.out 0).trans rfl; have d10 := (blk_cell BJ1.out 0).trans rfl; have f10 := blk_frozen BK1.out 0; have g10 := blk_frozen BJ1.out 0; have c11 := (blk_cell BK1.out 1).trans rfl; have d11 := (blk_cell BJ1.out 1).trans rfl; have f11 := blk_frozen BK1.out 1; have g11 := blk_frozen BJ1.out 1; have c12 := (blk_cell BK1.out 2).trans rfl; have d12 := (blk_cell BJ1.out 2).trans rfl; have f12 := blk_frozen BK1.out 2; have g12 := blk_frozen BJ1.out 2))
    refine bodyPost_ret (results_cell_row rfl _ _ (w.heap.size + 1) 25 #[Value.int IntKind.i64 2, Value.int IntKind.i64 a, Value.int IntKind.i64 n] (0, 0) _ rfl (blk_put (cs := #[Value.int IntKind.i64 2, Value.int IntKind.i64 a, Value.int IntKind.i64 0]) (blk_put (cs := #[Value.int IntKind.i64 2, Value.int IntKind.i64 0, Value.int IntKind.i64 0]) (blk_put (cs := #[Value.int IntKind.i64 0, Value.int IntKind.i64 0, Value.int IntKind.i64 0]) (blk_far BJ1.out (by simp) _) 0 _ rfl) 1 _ rfl) 2 _ rfl) Try.underlying25 rfl (by kernel_rfl)) rfl ⟨by rw [HV.out], below_set (below_set (below_set (below_set HB1.out (by simp)) (by simp)) (by simp)) (by simp)⟩
  · obtain ⟨q0, q1⟩ := k3 (by omega)
    clear k0 k1 k2 k3 k4
    have HV : Aside0 (asHasV fl 3 a br = (brokenN (playL br fl.toNat a 0 fl) : Int)) := ⟨by unfold asHasV; rw [if_neg (by decide), if_neg (by decide), if_neg (by decide), if_pos rfl]⟩
    obtain ⟨L, hL⟩ : ∃ L, L = playL br fl.toNat a 0 fl := ⟨_, rfl⟩
    have HLn : Aside0 (L.length ≤ 1000) := ⟨by rw [hL]; have := playL_len br fl.toNat a 0 fl; have := HF.out; omega⟩
    have HCB : Aside0 (impl_countBroken.f (L.length + 1) L = some (brokenN L : Int)) := ⟨countBroken_some L (by have := HLn.out; omega)⟩
    have HP : Aside0 (∀ W, Below w.heap.size w W → Calls Try.prog 118 #[.int .i64 a, .int .i64 fl, .int .i64 br, .func (.func 119) #[.pointer (some ⟨b, 0, none⟩)] #[]] W fun e w' => ∃ v0_ : Value, e = .returned (v0_) ∧ Kd.R k121 121 w' W.heap.size (fun _ => True) v0_ L ∧ Below W.heap.size W w') := ⟨fun W hW => by
      obtain ⟨cs, h1, h2⟩ := HR.out
      rw [hL]
      exact play.calls W b a fl br ⟨cs, blk_below h1 hW, h2⟩ q0 q1 HF.out.1 HF.out.2.1⟩
    rw [← hL] at HV
    obtain ⟨n, hn⟩ : ∃ n : Int, n = (brokenN L : Int) := ⟨_, rfl⟩
    rw [← hn] at HV HCB
    have hn2 := hn.symm
    clear hL q0 q1 hn
    have hmf : ∀ (fn : Fn) (first cap : Array Value) (w : World), (Instr.makeFunc fn first cap).run Try.prog w = .ok (.func fn first cap) w := fun _ _ _ _ => rfl
    have hB0 : Aside0 (Below w.heap.size w ((w.alloc (Obj.cells #[Value.int IntKind.i64 3, Value.int IntKind.i64 a, Value.int IntKind.i64 v] 25)).alloc (Obj.cells #[Value.int IntKind.i64 0, Value.int IntKind.i64 0, Value.int IntKind.i64 0] 25))) := ⟨below_alloc (below_alloc (Below.refl _ _) _) _⟩
    have BK : Aside0 (((w.alloc (Obj.cells #[Value.int IntKind.i64 3, Value.int IntKind.i64 a, Value.int IntKind.i64 v] 25)).alloc (Obj.cells #[Value.int IntKind.i64 0, Value.int IntKind.i64 0, Value.int IntKind.i64 0] 25)).heap[w.heap.size]? = some (.cells #[Value.int IntKind.i64 3, Value.int IntKind.i64 a, Value.int IntKind.i64 v] 25 (0, 0))) := ⟨blk_alloc (blk_new _ _) _⟩
    have BJ : Aside0 (((w.alloc (Obj.cells #[Value.int IntKind.i64 3, Value.int IntKind.i64 a, Value.int IntKind.i64 v] 25)).alloc (Obj.cells #[Value.int IntKind.i64 0, Value.int IntKind.i64 0, Value.int IntKind.i64 0] 25)).heap[w.heap.size + 1]? = some (.cells #[Value.int IntKind.i64 0, Value.int IntKind.i64 0, Value.int IntKind.i64 0] 25 (0, 0))) := ⟨by have h_ := blk_new (w.alloc (Obj.cells #[Value.int IntKind.i64 3, Value.int IntKind.i64 a, Value.int IntKind.i64 v] 25)) (Obj.cells #[Value.int IntKind.i64 0, Value.int IntKind.i64 0, Value.int IntKind.i64 0] 25); rwa [World.size_alloc] at h_⟩
    go_enter Try.func98, Try.ntmps98
    go_wp2_with (first | (go_at_call 118; refine (HP.out _ hB0.out).mono ?_; rintro e w1 ⟨v1, rfl, hO, hb1⟩; obtain ⟨A1, c1, rfl⟩ := Kd.R_slice hO; have HO1 := Aside0.mk hO; have HB1 := Aside0.mk (below_step hB0.out hb1); have BK1 := Aside0.mk (blk_below BK.out hb1); have BJ1 := Aside0.mk (blk_below BJ.out hb1); have c10 := (blk_cell BK1.out 0).trans rfl; have d10 := (blk_cell BJ1.out 0).trans rfl; have f10 := blk_frozen BK1.out 0; have g10 := blk_frozen BJ1.out 0; have c11 := (blk_cell BK1.out 1).trans rfl; have d11 := (blk_cell BJ1.out 1).trans rfl; have f11 := blk_frozen BK1.out 1; have g11 := blk_frozen BJ1.out 1; have c12 := (blk_cell BK1.out 2).trans rfl; have d12 := (blk_cell BJ1.out 2).trans rfl; have f12 := blk_frozen BK1.out 2; have g12 := blk_frozen BJ1.out 2) | (go_at_call 107; refine (impl_countBroken.calls _ A1 c1 _ _ _ (Kd.R_reads' HO1.out).2.2 (Kd.R_reads' HO1.out).2.1 HCB.out).mono ?_; rintro e2 w2 ⟨rfl, hb2⟩; have HB2 := Aside0.mk (below_step HB1.out hb2); have BK2 := Aside0.mk (blk_below BK1.out hb2); have BJ2 := Aside0.mk (blk_below BJ1.out hb2); have c20 := (blk_cell BK2.out 0).trans rfl; have d20 := (blk_cell BJ2.out 0).trans rfl; have f20 := blk_frozen BK2.out 0; have g20 := blk_frozen BJ2.out 0; have c21 := (blk_cell BK2.out 1).trans rfl; have d21 := (blk_cell BJ2.out 1).trans rfl; have f21 := blk_frozen BK2.out 1; have g21 := blk_frozen BJ2.out 1; have c22 := (blk_cell BK2.out 2).trans rfl; have d22 := (blk_cell BJ2.out 2).trans rfl; have f22 := blk_frozen BK2.out 2; have g22 := blk_frozen BJ2.out 2))
    refine bodyPost_ret (results_cell_row rfl _ _ (w.heap.size + 1) 25 #[Value.int IntKind.i64 3, Value.int IntKind.i64 a, Value.int IntKind.i64 n] (0, 0) _ rfl (blk_put (cs := #[Value.int IntKind.i64 3, Value.int IntKind.i64 a, Value.int IntKind.i64 0]) (blk_put (cs := #[Value.int IntKind.i64 3, Value.int IntKind.i64 0, Value.int IntKind.i64 0]) (blk_put (cs := #[Value.int IntKind.i64 0, Value.int IntKind.i64 0, Value.int IntKind.i64 0]) (blk_far BJ2.out (by simp) _) 0 _ rfl) 1 _ rfl) 2 _ rfl) Try.underlying25 rfl (by kernel_rfl)) rfl ⟨by rw [HV.out], below_set (below_set (below_set (below_set HB2.out (by simp)) (by simp)) (by simp)) (by simp)⟩
  · obtain ⟨q0, q1⟩ := k4 rfl
    obtain ⟨x, hx⟩ : ∃ x : Int, x = br - a := ⟨_, rfl⟩
    obtain ⟨y, hy⟩ : ∃ y : Int, y = a - br := ⟨_, rfl⟩
    have w1 : IntKind.i64.wrap (br - a) = x := by rw [hx]; exact Hw.wrap_w (by have := HF.out; omega) (by have := HF.out; omega)
    have w2 : IntKind.i64.wrap (a - br) = y := by rw [hy]; exact Hw.wrap_w (by have := HF.out; omega) (by have := HF.out; omega)
    have HV : Aside0 (asHasV fl 4 a br = max x y) := ⟨by unfold asHasV; rw [if_neg (by decide), if_neg (by decide), if_neg (by decide), if_neg (by decide), hx, hy]⟩
    by_cases hc : x < y
    · have d1 : decide (x < y) = true := decide_eq_true hc
      have HV2 : Aside0 (max x y = y) := ⟨by omega⟩
      have HV : Aside0 (asHasV fl 4 a br = y) := ⟨HV.out.trans HV2.out⟩
      have hc' : (x < y) = True := eq_true hc
      clear hx hy k0 k1 k2 k3 k4 hc HV2
      go_enter Try.func98, Try.ntmps98
      go_wp2
      refine bodyPost_ret (results_cell_row rfl _ _ (w.heap.size + 1) 25 #[.int .i64 4, .int .i64 a, .int .i64 y] (0, 0) _ rfl (by have h_ := blk_new (w.alloc (Obj.cells #[Value.int IntKind.i64 4, Value.int IntKind.i64 a, Value.int IntKind.i64 y] 25)) (Obj.cells #[Value.int IntKind.i64 4, Value.int IntKind.i64 a, Value.int IntKind.i64 y] 25); rwa [World.size_alloc] at h_) Try.underlying25 rfl (by kernel_rfl)) rfl ⟨by rw [HV.out], below_alloc (below_alloc (Below.refl _ _) _) _⟩
    · have d1 : decide (x < y) = false := decide_eq_false hc
      have HV2 : Aside0 (max x y = x) := ⟨by omega⟩
      have HV : Aside0 (asHasV fl 4 a br = x) := ⟨HV.out.trans HV2.out⟩
      have hc' : (x < y) = False := eq_false hc
      clear hx hy k0 k1 k2 k3 k4 hc HV2
      go_enter Try.func98, Try.ntmps98
      go_wp2
      refine bodyPost_ret (results_cell_row rfl _ _ (w.heap.size + 1) 25 #[.int .i64 4, .int .i64 a, .int .i64 x] (0, 0) _ rfl (by have h_ := blk_new (w.alloc (Obj.cells #[Value.int IntKind.i64 4, Value.int IntKind.i64 a, Value.int IntKind.i64 x] 25)) (Obj.cells #[Value.int IntKind.i64 4, Value.int IntKind.i64 a, Value.int IntKind.i64 x] 25); rwa [World.size_alloc] at h_) Try.underlying25 rfl (by kernel_rfl)) rfl ⟨by rw [HV.out], below_alloc (below_alloc (Below.refl _ _) _) _⟩
theorem isClue_ok {fl k a v : Int} (h : impl_IsClue.f fl k a v = some true) : 1 ≤ fl ∧ fl ≤ 40 ∧ okA fl k a := by
  unfold impl_IsClue.f at h
  rw [hidden_some] at h
  have hw : ∀ x y z : Int, impl_within.f x y z = some (decide (y ≤ x) && decide (x ≤ z)) := by
    intro x y z
    unfold impl_within.f
    by_cases h : y ≤ x <;> simp [h]
  have he : ∀ x : Int, impl_isEggs.f x = some (decide (1 ≤ x) && decide (x ≤ 10)) := by
    intro x; unfold impl_isEggs.f; rw [hw]; rfl
  have hb : ∀ x y : Int, impl_isBreak.f x y = some (decide (0 ≤ y) && decide (y ≤ x)) := by
    intro x y; unfold impl_isBreak.f; rw [hw]; rfl
  simp only [Option.bind_some, hw, he, hb] at h
  unfold okA
  repeat' (split at h)
  all_goals simp at h
  all_goals simp only [Bool.and_eq_true, decide_eq_true_eq] at *
  all_goals omega


end Go.Proofs.Ytbkplokoomodcaa.M
