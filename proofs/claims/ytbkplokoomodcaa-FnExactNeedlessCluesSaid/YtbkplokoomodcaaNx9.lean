/- Plain Lean functions with the answers of Go functions, and proofs of it: printed by a program of this session (pr.py) over the kit's print, with hand-written parts. -/
import Derived.Test.YtbkplokoomodcaaNx0
import Derived.Test.YtbkplokoomodcaaNx1
import Derived.Test.YtbkplokoomodcaaNx2
import Derived.Test.YtbkplokoomodcaaNx3
import Derived.Test.YtbkplokoomodcaaNx7
import Derived.Test.YtbkplokoomodcaaNx8
namespace Go.Proofs.Ytbkplokoomodcaa.N
open Go.RowKit Go.Proofs.YtbkplokoomodcaaW.PrintWords Go.Proofs.YtbkplokoomodcaaW.PrintLast Go.Proofs.YtbkplokoomodcaaW.PrintMore
attribute [local go_sem] max2_int min2_int max_two min_two max_three min_three max_four min_four   -- for this text's walks alone
set_option linter.unusedVariables false
set_option linter.unusedSimpArgs false

-- FOR (impl.Puzzle).solutions
-- CALLS (*impl.reaches).fits ; slices.ContainsFunc[[]impl.Clue,impl.Clue]
-- USES kd int
-- USES info int
def fitsB (fl : Int) (b : Int) (c : S25) : Bool := asHasV fl c.f0 c.f1 b == c.f2
def solsFrom (fl : Int) (cs : List S25) : Nat → Int → List Int
  | 0, _ => []
  | n + 1, b => if cs.all (fitsB fl b) = true then b :: solsFrom fl cs n (b + 1) else solsFrom fl cs n (b + 1)
def solsF (fl : Int) (cs : List S25) : List Int := solsFrom fl cs (fl + 1).toNat 0
theorem solsFrom_len (fl : Int) (cs : List S25) (n : Nat) (b : Int) : (solsFrom fl cs n b).length ≤ n := by
  induction n generalizing b with
  | zero => exact Nat.le_refl _
  | succ n ih =>
    unfold solsFrom
    split
    · rw [List.length_cons]; exact Nat.succ_le_succ (ih _)
    · exact Nat.le_succ_of_le (ih _)
set_option maxHeartbeats 8000000 in
set_option maxRecDepth 1000000 in
theorem solutions1.calls (fl br : Int) (b g1 g2 g3 : Nat) (V : Value) (x : S25) (W : World) (hR : Rch W b)
    (h1 : W.cell? ⟨g1, 0, none⟩ = some (.pointer (some ⟨b, 0, none⟩))) (h2 : W.cell? ⟨g2, 0, none⟩ = some (.int .i64 fl)) (h3 : W.cell? ⟨g3, 0, none⟩ = some (.int .i64 br))
    (hk : okA fl x.f0 x.f1) (hf0 : 0 ≤ fl) (hf1 : fl ≤ 1000) (hb0 : 0 ≤ br) (hb1 : br ≤ fl) :
    Calls Try.prog 120 #[.agg #[.int .i64 x.f0, .int .i64 x.f1, .int .i64 x.f2], .pointer (some ⟨g1, 0, none⟩), .pointer (some ⟨g2, 0, none⟩), .pointer (some ⟨g3, 0, none⟩)] W fun e W' => e = .returned (.bool (!fitsB fl br x)) ∧ Below W.heap.size W W' := by
  have HB : Aside0 (Below W.heap.size W (W.alloc (Obj.cells #[Value.int IntKind.i64 x.f0, Value.int IntKind.i64 x.f1, Value.int IntKind.i64 x.f2] 25))) := ⟨below_alloc (Below.refl _ _) _⟩
  have l1 := World.block_lt_of_cell? W _ h1
  have l2 := World.block_lt_of_cell? W _ h2
  have l3 := World.block_lt_of_cell? W _ h3
  have HP : Aside0 (Calls Try.prog 87 #[.pointer (some ⟨b, 0, none⟩), .int .i64 fl, .agg #[.int .i64 x.f0, .int .i64 x.f1, .int .i64 x.f2], .int .i64 br] (W.alloc (Obj.cells #[Value.int IntKind.i64 x.f0, Value.int IntKind.i64 x.f1, Value.int IntKind.i64 x.f2] 25)) fun e w' => e = .returned (.bool (fitsB fl br x)) ∧ Below (W.heap.size + 1) (W.alloc (Obj.cells #[Value.int IntKind.i64 x.f0, Value.int IntKind.i64 x.f1, Value.int IntKind.i64 x.f2] 25)) w') := ⟨by
    obtain ⟨cs, q1, q2⟩ := hR
    exact (fits.calls _ b fl x.f0 x.f1 x.f2 br ⟨cs, blk_alloc q1 _, q2⟩ hk hf0 hf1 hb0 hb1).mono fun e w' h => ⟨h.1, by simpa using h.2⟩⟩
  clear hR hk hf0 hf1 hb0 hb1
  go_enter Try.func120, Try.ntmps120
  go_wp2_with (first | (go_at_call 87; refine HP.out.mono ?_; rintro e w1 ⟨rfl, hb1⟩))
  go_ret
  exact ⟨rfl, HB.out.trans (hb1.mono (by simp))⟩
set_option maxHeartbeats 8000000 in
set_option maxRecDepth 1000000 in
theorem solutions.calls (w : World) (b : Nat) (fl : Int) (Ap A : Option Addr) (np cp c : Nat) (l : List S25) (hR : Rch w b) (hr : Kd.C k25 w A l.length l) (hc : l.length ≤ c) (hf0 : 0 ≤ fl) (hf1 : fl ≤ 1000) (hk : ∀ x ∈ l, okA fl x.f0 x.f1) :
    Calls Try.prog 101 #[.agg #[.int .i64 fl, .slice Ap np cp], .pointer (some ⟨b, 0, none⟩), .slice A l.length c] w fun e w' => ∃ v0_ : Value, e = .returned v0_ ∧ Kd.R (Kd.int .i64) 3 w' w.heap.size (fun _ => True) v0_ (solsF fl l) ∧ Below w.heap.size w w' := by
  have HR := Aside0.mk hR
  have HC := Aside0.mk hr
  have HK := Aside0.mk hk
  have HF := Aside0.mk (And.intro hf0 hf1)
  have hm := Kd.C_max hr
  obtain ⟨m, hm1⟩ : ∃ m : Int, m = fl + 1 := ⟨_, rfl⟩
  have w1 : IntKind.i64.wrap (fl + 1) = m := by rw [hm1]; exact Hw.wrap_w (by omega) (by omega)
  have HM := Aside0.mk hm1
  clear hR hr hc hk hf0 hf1 hm1
  go_enter Try.func101, Try.ntmps101
  go_wp2
  go_loopg [7, 13] m.toNat (fun n v7 v13 w' => ∃ (i : Int) (xs : List Int), v13 = .int .i64 i ∧ Aside0 (0 ≤ i ∧ i + n = m ∧ xs.length ≤ i) ∧ Aside0 (xs ++ solsFrom fl l n i = solsF fl l) ∧ Aside0 (Kd.R (Kd.int .i64) 3 w' w.heap.size (fun k_ => w.heap.size + 2 ≤ k_) v7 xs) ∧ Aside0 (w'.heap[w.heap.size]? = some (.cells #[.int .i64 fl, .slice Ap np cp] 35 (0, 0))) ∧ Aside0 (w'.heap[w.heap.size + 1]? = some (.cells #[.pointer (some ⟨b, 0, none⟩)] 86 (0, 0))) ∧ Aside0 (Below w.heap.size w w'))
  case atStart =>
    refine ⟨0, [], rfl, ⟨by have := HM.out; have := HF.out; simp; omega⟩, ⟨by unfold solsF; rw [HM.out]; rfl⟩, ⟨?_⟩, ⟨blk_alloc (blk_alloc (blk_new _ _) _) _⟩, ⟨?_⟩, ⟨below_alloc (below_alloc (below_alloc (Below.refl _ _) _) _) _⟩⟩
    · have h_ := Hw.R_empty (Kd.int .i64) 3 ((w.alloc (Obj.cells #[Value.int IntKind.i64 fl, Value.slice Ap np cp] 35)).alloc (Obj.cells #[Value.pointer (some { block := b, off := 0 })] 86)) w.heap.size (fun k_ => w.heap.size + 2 ≤ k_) (by simp only [World.size_alloc]; omega) (by simp only [World.size_alloc]; omega)
      rw [World.size_alloc, World.size_alloc] at h_
      exact h_
    · refine blk_alloc ?_ _
      have h_ := blk_new (w.alloc (Obj.cells #[Value.int IntKind.i64 fl, Value.slice Ap np cp] 35)) (Obj.cells #[Value.pointer (some { block := b, off := 0 })] 86)
      rwa [World.size_alloc] at h_
  case round =>
    obtain ⟨i, xs, rfl, HI, HL, HO, BP, BQ, HB⟩ := hrel
    by_cases hlt : i < m
    · have d1 : decide (i < m) = true := decide_eq_true hlt
      have HLt := Aside0.mk hlt
      obtain ⟨k1, rfl⟩ : ∃ k1, gk = k1 + 1 := ⟨gk - 1, by have := HI.out; omega⟩
      have w2 : IntKind.i64.wrap (i + 1) = i + 1 := Hw.wrap_w (by have := HI.out; omega) (by have := HI.out; have := HM.out; have := HF.out; omega)
      clear hlt
      have HX : Aside0 (Calls Try.prog 81 #[.slice A l.length c, .func (.func 120) #[] #[.pointer (some ⟨w.heap.size + 1, 0, none⟩), .pointer (some ⟨w.heap.size, 0, none⟩), .pointer (some ⟨wr.heap.size, 0, none⟩)]] (wr.alloc (Obj.cells #[Value.int IntKind.i64 i] 3)) fun e w' => e = .returned (.bool (!l.all (fitsB fl i))) ∧ Below (wr.alloc (Obj.cells #[Value.int IntKind.i64 i] 3)).heap.size (wr.alloc (Obj.cells #[Value.int IntKind.i64 i] 3)) w') := ⟨by
        have h_ : (!l.all (fitsB fl i)) = l.any (fun x => !fitsB fl i x) := by rw [← Hw.all_not_any, Bool.not_not]
        rw [h_]
        refine anyClue.calls (fun x => !fitsB fl i x) 120 _ _ A c l _ (Kd.C_alloc (Kd.C_below HC.out HB.out) _) Try.func120 (by kernel_rfl) rfl ?_
        intro x W hx hb
        obtain ⟨cs, q1, q2⟩ := HR.out
        exact solutions1.calls fl i b (w.heap.size + 1) w.heap.size wr.heap.size .nilFunc x W ⟨cs, blk_below (blk_alloc (blk_below q1 HB.out) _) hb, q2⟩ ((blk_cell (blk_below (blk_alloc BQ.out _) hb) 0).trans rfl) ((blk_cell (blk_below (blk_alloc BP.out _) hb) 0).trans rfl) ((blk_cell (blk_below (blk_new _ _) hb) 0).trans rfl) (HK.out x hx) HF.out.1 HF.out.2 HI.out.1 (by have := HLt.out; have := HM.out; omega)⟩
      have hmf : ∀ (fn : Fn) (first cap : Array Value) (w : World), (Instr.makeFunc fn first cap).run Try.prog w = .ok (.func fn first cap) w := fun _ _ _ _ => rfl
      obtain ⟨y, hy⟩ : ∃ y : List Int, y = xs ++ [i] := ⟨_, rfl⟩
      have Ny := Aside0.mk hy
      clear hy
      cases ha : l.all (fitsB fl i) with
      | true =>
        rw [ha] at HX
        have HL2 : Aside0 (y ++ solsFrom fl l k1 (i + 1) = solsF fl l) := ⟨by have h_ := HL.out; rw [solsFrom, if_pos ha] at h_; rw [Ny.out, ← h_]; simp⟩
        clear ha HL
        go_wp2_with (first | (go_at_call 81; refine HX.out.mono ?_; rintro e w2 ⟨rfl, hb2⟩; have hB2 : Below w.heap.size w w2 := (below_alloc HB.out _).trans (hb2.mono (by have := HB.out.size; simp; omega)); have bP := blk_below (blk_alloc BP.out (Obj.cells #[Value.int IntKind.i64 i] 3)) hb2; have bQ := blk_below (blk_alloc BQ.out (Obj.cells #[Value.int IntKind.i64 i] 3)) hb2; have bI := blk_below (blk_new wr (Obj.cells #[Value.int IntKind.i64 i] 3)) hb2; have hO := Kd.R_below (Kd.R_alloc HO.out (Obj.cells #[Value.int IntKind.i64 i] 3)) hb2; have cI := (blk_cell bI 0).trans rfl; clear HO HB BP BQ; have HO := Aside0.mk hO; have HB := Aside0.mk hB2; have BP := Aside0.mk bP; have BQ := Aside0.mk bQ; clear hO hB2 bP bQ bI hb2) | ((with_reducible refine gate_builtin (b := .append) (xs := #[.tmp 20, .tmp 22]) rfl ?_); at_builtin; refine Kd.R_append (Kd.int .i64) (w0 := w) w.heap.size rfl (.tmp 20) (.tmp 22) 55 3 (.int .i64 0) 8 rfl Try.underlying55 info3 rfl (by decide) (by omega) u7 xs i [.int .i64 i] (fun k_ => w.heap.size + 2 ≤ k_) (fun _ => False) rfl rfl ?aP (fun _ hk => hk.elim) ?aF ?aO ?aB ?aS ?aL ?_; (case aP => exact rfl); (case aB => exact (by repeat (first | (with_reducible first | exact HB.out | apply below_alloc | apply pw_below_drewN | apply below_drew1) | exact HB.out))); (case aF => exact (fun k_ hk => by have h_ := blk_lt BQ.out; show w.heap.size + 2 ≤ k_; omega)); (case aO => exact (by (with_reducible repeat (first | apply Kd.R_alloc | apply Kd.R_drewN | apply Kd.R_drew)); exact HO.out)); (case aS => exact (below_size (by repeat (first | (with_reducible first | exact HB.out | apply below_alloc | apply pw_below_drewN | apply below_drew1) | exact HB.out)))); (case aL => have := HI.out; have := HM.out; have := HF.out; have := HLt.out; omega); intro v3 w3 ho hb hg hat; rw [← Ny.out] at ho; have bP := blk_grown BP.out hg (fun h_ => by have h2_ : w.heap.size + 2 ≤ w.heap.size := HO.out.1 _ h_.symm; omega); have bQ := blk_grown BQ.out hg (fun h_ => by have h2_ : w.heap.size + 2 ≤ w.heap.size + 1 := HO.out.1 _ h_.symm; omega); clear HB HO BP BQ; have HB := Aside0.mk hb; have HO := Aside0.mk ho; have BP := Aside0.mk bP; have BQ := Aside0.mk bQ; clear ho hb hg hat bP bQ))
        go_roundg k1
        case measure => omega
        case rel => exact ⟨i + 1, y, rfl, ⟨by have := HI.out; have h_ : y.length = xs.length + 1 := (by rw [Ny.out]; simp); omega⟩, HL2, HO, BP, BQ, HB⟩
      | false =>
        rw [ha] at HX
        have HL2 : Aside0 (xs ++ solsFrom fl l k1 (i + 1) = solsF fl l) := ⟨by have h_ := HL.out; rw [solsFrom, if_neg (by rw [ha]; decide)] at h_; exact h_⟩
        clear ha HL
        go_wp2_with (first | (go_at_call 81; refine HX.out.mono ?_; rintro e w2 ⟨rfl, hb2⟩; have hB2 : Below w.heap.size w w2 := (below_alloc HB.out _).trans (hb2.mono (by have := HB.out.size; simp; omega)); have bP := blk_below (blk_alloc BP.out (Obj.cells #[Value.int IntKind.i64 i] 3)) hb2; have bQ := blk_below (blk_alloc BQ.out (Obj.cells #[Value.int IntKind.i64 i] 3)) hb2; have bI := blk_below (blk_new wr (Obj.cells #[Value.int IntKind.i64 i] 3)) hb2; have hO := Kd.R_below (Kd.R_alloc HO.out (Obj.cells #[Value.int IntKind.i64 i] 3)) hb2; have cI := (blk_cell bI 0).trans rfl; clear HO HB BP BQ; have HO := Aside0.mk hO; have HB := Aside0.mk hB2; have BP := Aside0.mk bP; have BQ := Aside0.mk bQ; clear hO hB2 bP bQ bI hb2))
        go_roundg k1
        case measure => omega
        case rel => exact ⟨i + 1, xs, rfl, ⟨by have := HI.out; omega⟩, HL2, HO, BP, BQ, HB⟩
    · have d1 : decide (i < m) = false := decide_eq_false hlt
      have HL2 : Aside0 (xs = solsF fl l) := ⟨by have := HI.out; rw [← HL.out, show gk = 0 by omega]; simp [solsFrom]⟩
      clear hlt
      go_wp2
      go_ret
      exact ⟨_, rfl, by rw [← HL2.out]; exact Kd.R_mono HO.out (fun _ _ => trivial), HB.out⟩


-- FOR impl.Solutions
-- KIND rounds=0 making=1
-- CALLS impl.IsPuzzle ; (impl.Puzzle).solutions ; impl.newReaches
def impl_Solutions.f (a0_0 : Int) (l0_1 : List S25) : Option (List Int × Bool) := (impl_IsPuzzle.f a0_0 l0_1).bind fun t => if t = true then some (solsF a0_0 l0_1, true) else some ([], false)
theorem isPuzzle_ok {fl : Int} {l : List S25} (h : impl_IsPuzzle.f fl l = some true) : 1 ≤ fl ∧ fl ≤ 40 ∧ l.length ≤ 6 ∧ ∀ x ∈ l, okA fl x.f0 x.f1 := by
  unfold impl_IsPuzzle.f at h
  have h1 := Option.some.inj h
  simp only [Bool.and_eq_true, decide_eq_true_eq, List.all_eq_true] at h1
  obtain ⟨⟨⟨q0, q1⟩, q2⟩, q3⟩ := h1
  refine ⟨q0, q1, q2, fun x hx => ?_⟩
  have h2 := q3 x hx
  exact (isClue_ok (v := x.f2) (by rw [isClue_some]; exact congrArg some h2)).2.2
set_option maxHeartbeats 8000000 in
set_option maxRecDepth 1000000 in
theorem impl_Solutions.calls (a0_0 : Int) (A0_1 : Option Addr) (c0_1 : Nat) (l0_1 : List S25) (r1 : List Int) (r2 : Bool) (w : World) (hr0_1 : Kd.C k25 w A0_1 l0_1.length l0_1) (hc0_1 : l0_1.length ≤ c0_1) (h : impl_Solutions.f a0_0 l0_1 = some (r1, r2)) :
    Calls Try.prog 49 #[.agg #[.int .i64 a0_0, .slice A0_1 l0_1.length c0_1]] w fun e w' => ∃ v0_ : Value, e = .returned (.tuple #[v0_, .bool r2]) ∧ Kd.R (Kd.int .i64) 3 w' w.heap.size (fun _ => True) v0_ r1 ∧ Below w.heap.size w w' := by
  have HB : Aside0 (Below w.heap.size w (w.alloc (Obj.cells #[Value.int IntKind.i64 a0_0, Value.slice A0_1 l0_1.length c0_1] 35))) := ⟨below_alloc (Below.refl _ _) _⟩
  have BK : Aside0 ((w.alloc (Obj.cells #[Value.int IntKind.i64 a0_0, Value.slice A0_1 l0_1.length c0_1] 35)).heap[w.heap.size]? = some (.cells #[Value.int IntKind.i64 a0_0, Value.slice A0_1 l0_1.length c0_1] 35 (0, 0))) := ⟨blk_new _ _⟩
  have HR := Aside0.mk hr0_1
  have HC := Aside0.mk hc0_1
  clear hr0_1 hc0_1
  obtain ⟨q, hq⟩ : ∃ q, impl_IsPuzzle.f a0_0 l0_1 = some q := ⟨_, rfl⟩
  unfold impl_Solutions.f at h
  rw [hq, Option.bind_some] at h
  have HQ := Aside0.mk hq
  cases q with
  | false =>
    rw [if_neg (by decide)] at h
    simp only [Option.some.injEq, Prod.mk.injEq] at h
    obtain ⟨rfl, rfl⟩ := h
    clear hq
    go_enter Try.func49, Try.ntmps49
    go_wp2_with (first | (go_at_call 25; refine (impl_IsPuzzle.calls _ _ _ _ _ _ (Kd.C_below HR.out HB.out) HC.out HQ.out).mono ?_; rintro e w1 ⟨rfl, hb⟩; have HB1 := Aside0.mk (below_step HB.out hb); clear hb))
    go_ret2
    exact ⟨_, rfl, Kd.R_nil _ _ _ _ _, HB1.out⟩
  | true =>
    rw [if_pos rfl] at h
    simp only [Option.some.injEq, Prod.mk.injEq] at h
    obtain ⟨rfl, rfl⟩ := h
    have HO := Aside0.mk (isPuzzle_ok hq)
    clear hq
    go_enter Try.func49, Try.ntmps49
    go_wp2_with (first | (go_at_call 25; refine (impl_IsPuzzle.calls _ _ _ _ _ _ (Kd.C_below HR.out HB.out) HC.out HQ.out).mono ?_; rintro e w1 ⟨rfl, hb⟩; have HB1 := Aside0.mk (below_step HB.out hb); have BK1 := Aside0.mk (blk_below BK.out hb); have c10 := (blk_cell BK1.out 0).trans rfl; have c11 := (blk_cell BK1.out 1).trans rfl; clear hb))
    go_region_held3 (fun w' => w'.cell? ⟨w.heap.size, 0, none⟩ = some (.int .i64 a0_0) ∧ w'.cell? ⟨w.heap.size, 1, none⟩ = some (.slice A0_1 l0_1.length c0_1)) (first | exact ⟨c10, c11⟩ | exact ⟨c30, c31⟩ | exact ⟨c40, c41⟩) (first | (go_at_call 86; refine (newReaches.calls _).mono ?_; rintro e w3 ⟨rfl, hr, hb⟩; have HR3 := Aside0.mk hr; have HB3 : Aside0 (Below w.heap.size w w3) := ⟨below_step (below_drew1 HB1.out) hb⟩; have BK3 := Aside0.mk (blk_below (w := w1.drew) (blk_drew BK1.out) hb); have c30 := (blk_cell BK3.out 0).trans rfl; have c31 := (blk_cell BK3.out 1).trans rfl; clear hr hb) | (go_at_call 101; refine (solutions.calls w3 _ a0_0 A0_1 A0_1 l0_1.length c0_1 c0_1 l0_1 HR3.out (Kd.C_below HR.out HB3.out) HC.out (by have := HO.out; omega) (by have := HO.out; omega) HO.out.2.2.2).mono ?_; rintro e w4 ⟨v4, rfl, ho4, hb⟩; have HO4 := Aside0.mk (Kd.R_lower ho4 (below_size HB3.out)); have HB4 := Aside0.mk (below_step HB3.out hb); have BK4 := Aside0.mk (blk_below BK3.out hb); have c40 := (blk_cell BK4.out 0).trans rfl; have c41 := (blk_cell BK4.out 1).trans rfl; clear hb ho4))
    all_goals go_wp2
    all_goals
      go_ret2
      exact ⟨_, rfl, HO4.out, HB4.out⟩


-- FOR slices.Clone[[]impl.Clue,impl.Clue]
-- USES info impl.Clue
-- USES kd impl.Clue
-- KIND rounds=0 making=1
set_option maxHeartbeats 8000000 in
set_option maxRecDepth 1000000 in
theorem cloneClue.calls (w : World) (A : Option Addr) (c : Nat) (l : List S25) (hr : Kd.C k25 w A l.length l) (hc : l.length ≤ c) (hl : l.length < 5864062014805) :
    Calls Try.prog 88 #[.slice A l.length c] w fun e w' => ∃ v0_ : Value, e = .returned v0_ ∧ Kd.R k25 25 w' w.heap.size (fun _ => True) v0_ l ∧ Below w.heap.size w w' := by
  have HR := Aside0.mk hr
  have HC := Aside0.mk hc
  have HL := Aside0.mk hl
  cases A with
  | none =>
    have hl0 : l = [] := by
      rcases Nat.eq_zero_or_pos l.length with h0 | h0
      · exact List.eq_nil_of_length_eq_zero h0
      · obtain ⟨ad, h, _⟩ := hr.2.2 h0
        cases h
    subst hl0
    have hnil := run_eql_slice_nil (P := Try.prog) w 33 25 none 0 c Try.underlying33
    clear hr hc hl
    go_enter Try.func88, Try.ntmps88
    go_wp2
    go_ret
    exact ⟨_, rfl, Kd.R_nil _ _ _ _ _, Below.refl _ _⟩
  | some ad =>
    have hnil := run_eql_slice_nil (P := Try.prog) w 33 25 (some ad) l.length c Try.underlying33
    clear hr hc hl
    go_enter Try.func88, Try.ntmps88
    have HB := Aside0.mk (Below.refl w.heap.size w)
    go_wp2_with (first | ((with_reducible refine gate_builtin (b := .append) (xs := #[.tmp 5, .tmp 6]) rfl ?_); at_builtin; refine Kd.R_append_rows k25 (w0 := w) w.heap.size rfl (.tmp 5) (.tmp 6) 33 25 (.agg #[(.int .i64 0), (.int .i64 0), (.int .i64 0)]) 24 rfl Try.underlying33 info25 rfl (by decide) (by omega) (.slice (some ⟨w.heap.size, 0, none⟩) 0 0) [] l (some ad) l.length c (fun _ => True) (fun _ => False) rfl rfl (Hw.R_empty k25 25 w w.heap.size (fun _ => True) (Nat.le_refl _) trivial) (Kd.C_alloc HR.out _) (fun _ _ h => h) (fun _ h => h.elim) (fun _ _ => trivial) (below_alloc HB.out _) (by simp) (by have := HL.out; simp; omega) ?_; intro v1 w1 ho hb hg hat; clear hg hat))
    go_ret
    exact ⟨_, rfl, by simpa using ho, hb⟩
def impl_Clue_88.f (l0 : List S25) : Option (List S25) := if l0.length < 5864062014805 then some l0 else none
theorem impl_Clue_88.calls (A0 : Option Addr) (c0 : Nat) (l0 : List S25) (r : List S25) (w : World) (hr0 : Kd.C k25 w A0 l0.length l0) (hc0 : l0.length ≤ c0) (h : impl_Clue_88.f l0 = some r) :
    Calls Try.prog 88 #[.slice A0 l0.length c0] w fun e w' => ∃ v0_ : Value, e = .returned (v0_) ∧ Kd.R k25 25 w' w.heap.size (fun _ => True) v0_ r ∧ Below w.heap.size w w' := by
  unfold impl_Clue_88.f at h
  split at h
  · rename_i hl
    obtain rfl := Option.some.inj h
    exact cloneClue.calls w A0 c0 l0 hr0 hc0 hl
  · cases h


-- FOR slices.Delete[[]impl.Clue,impl.Clue]
-- USES info impl.Clue
set_option maxHeartbeats 8000000 in
set_option maxRecDepth 1000000 in
theorem delClue.calls (w : World) (g i j n c : Nat) (cur : Array Value) (hb : w.heap[g]? = some (.cells cur 25 (0, 0))) (hs : cur.size = c * 3) (hnc : n ≤ c) (hcm : c ≤ maxLen) (hij : i < j) (hj : j ≤ n) (h1 : ∀ u ∈ cur.toList.take (n * 3), u.oneCell' = true) :
    Calls Try.prog 117 #[.slice (some ⟨g, 0, none⟩) n c, .int .i64 i, .int .i64 j] w fun e w' => e = .returned (.slice (some ⟨g, 0, none⟩) (n - (j - i)) c) ∧ (∃ cur', w'.heap[g]? = some (.cells cur' 25 (0, 0)) ∧ cur'.size = cur.size ∧ cur'.toList.take ((n - (j - i)) * 3) = cur.toList.take (i * 3) ++ (cur.toList.take (n * 3)).drop (j * 3)) ∧ Below g w w' := by
  have hm : c ≤ 9223372036854775807 := Nat.le_trans hcm (by decide)
  obtain ⟨news, hnews⟩ : ∃ news, news = (cur.toList.take (n * 3)).drop (j * 3) := ⟨_, rfl⟩
  have hlen : news.length = (n - j) * 3 := by rw [hnews]; simp; omega
  have hget : ∀ t, t < (n - j) * 3 → news[t]? = cur[j * 3 + t]? := by
    intro t ht
    rw [hnews, List.getElem?_drop, List.getElem?_take, if_pos (by omega), Array.getElem?_toList]
  obtain ⟨A, hA, hsrc⟩ : ∃ A : Addr, (if c = j then some (⟨g, 0, none⟩ : Addr) else some ⟨g, j * 3, none⟩) = some A ∧ Hid (∀ t u, news[t]? = some u → w.drew.cell? (A.add t) = some u) := by
    by_cases h : c = j
    · refine ⟨⟨g, 0, none⟩, by simp [h], fun t u hu => ?_⟩
      have h0 : news.length = 0 := by rw [hlen]; omega
      rw [List.length_eq_zero_iff.1 h0] at hu
      simp at hu
    · refine ⟨⟨g, j * 3, none⟩, by simp [h], fun t u hu => ?_⟩
      have ht : t < (n - j) * 3 := by
        have := (List.getElem?_eq_some_iff.1 hu).1
        rwa [hlen] at this
      rw [hget t ht] at hu
      rw [Addr.add_lit]
      exact (blk_cell (blk_drew hb) _).trans hu
  have s1 : Hid (news.length = (n - j) * 3) := hlen
  have s2 : Hid (∀ u ∈ news, u.oneCell' = true) := by
    intro u hu
    rw [hnews] at hu
    exact h1 u (List.mem_of_mem_drop hu)
  have s3 : Hid (∀ t, t < news.length → (w.drew.cell? ⟨g, 0 + i * 3 + t, none⟩).isSome = true ∧ w.drew.frozen? ⟨g, 0 + i * 3 + t, none⟩ = false) := by
    intro t ht
    rw [hlen] at ht
    refine ⟨?_, blk_frozen (blk_drew hb) _⟩
    rw [blk_cell (blk_drew hb), Array.getElem?_eq_getElem (by omega)]
    rfl
  obtain ⟨W1, hW1⟩ : ∃ W1, W1 = w.drew.setCells g (0 + i * 3) news := ⟨_, rfl⟩
  obtain ⟨cur1, hb1, hc1⟩ := Hw.setCells_blk (t := 25) news (0 + i * 3) w.drew cur (blk_drew hb) (by rw [hlen]; omega)
  rw [← hW1] at hb1
  have hz1 : cur1.size = cur.size := by rw [← Array.length_toList, hc1]; simp [hlen]; omega
  obtain ⟨zs, hzs⟩ : ∃ zs, zs = (Builtin.zeroCells (Value.agg #[.int .i64 0, .int .i64 0, .int .i64 0]).cells (n - (i + (n - j)))).toList := ⟨_, rfl⟩
  have hlz : zs.length = (n - (i + (n - j))) * 3 := by rw [hzs, Hw.zeroCells_len]; rfl
  have hcl : ∀ ty, (Builtin.clear_ #[33] ty #[.slice (some ⟨g, (i + (n - j)) * 3, none⟩) (n - (i + (n - j))) (c - (i + (n - j)))]).run Try.prog W1 = .ok (.tuple #[]) (W1.setCells g ((i + (n - j)) * 3) zs) :=
    fun ty => hzs ▸ Hw.run_clear_cells W1 _ _ ty _ Try.underlying33 Try.zeroValue25 3 rfl (by decide) (by decide) g ((i + (n - j)) * 3) _ _ (by omega)
      (fun x hx => by rw [blk_cell hb1, Array.getElem?_eq_getElem (by omega)]; rfl) (fun x hx => blk_frozen hb1 _)
  have hW : Hid (W1 = w.drew.setCells g (0 + i * 3) news) := hW1
  have hic : i ≤ c := by omega
  have hjc : j ≤ c := by omega
  obtain ⟨i0_, hi0, _, hsz, _⟩ := info_parts info25
  have HH : Aside0 (∃ cur2, (W1.setCells g ((i + (n - j)) * 3) zs).heap[g]? = some (.cells cur2 25 (0, 0)) ∧ cur2.size = cur.size ∧ cur2.toList.take ((n - (j - i)) * 3) = cur.toList.take (i * 3) ++ (cur.toList.take (n * 3)).drop (j * 3)) := ⟨by
    obtain ⟨cur2, hb2, hc2⟩ := Hw.setCells_blk (t := 25) zs ((i + (n - j)) * 3) W1 cur1 hb1 (by rw [hlz]; omega)
    refine ⟨cur2, hb2, ?_, ?_⟩
    · rw [← Array.length_toList, hc2]
      simp only [List.length_append, List.length_take, List.length_drop, hlz, Array.length_toList]
      omega
    · rw [hc2, List.append_assoc, List.take_append_of_le_length (by rw [List.length_take, Array.length_toList]; omega), List.take_take, Nat.min_eq_left (by omega), hc1, List.take_append_of_le_length (by simp [hlen]; omega), List.take_of_length_le (by simp [hlen]; omega), hnews, Nat.zero_add]⟩
  have HBl : Aside0 (Below g w (W1.setCells g ((i + (n - j)) * 3) zs)) := ⟨by rw [hW1]; exact below_setCells (Nat.le_refl _) _ _ _ (below_setCells (Nat.le_refl _) _ _ _ (below_drew1 (Below.refl _ _)))⟩
  clear hzs hlz hW1 hb1 hb hget hnews hlen hc1 hz1 h1
  have hmixed : Try.prog.follows Departure.mixedOrders = true := by first | rfl | kernel_rfl
  go_enter Try.func117, Try.ntmps117
  go_wp2_with fail
  go_region_law_o (refine step_append_room rfl (.tmp 22) (.tmp 25) 33 rfl 25 i0_ 3 Try.underlying33 hi0 hsz g 0 i c (by simp [Act.eval, Act.put]) A (n - j) (c - j) news (by simp [Act.eval, Act.put]) s1.out hsrc.out s2.out (by omega) s3.out ?_; rw [← hW.out])
  go_wp2_with fail
  go_ret
  exact ⟨by rw [show n - (j - i) = i + (n - j) by omega]; rfl, HH.out, HBl.out⟩


-- FOR impl.withoutClue
-- KIND rounds=0 making=1
-- CALLS slices.Clone[[]impl.Clue,impl.Clue] ; slices.Delete[[]impl.Clue,impl.Clue]
def impl_withoutClue.f (l0 : List S25) (a1 : Int) : Option (List S25) := if 0 ≤ a1 ∧ a1 < (l0.length : Int) ∧ l0.length < 5864062014805 then some (l0.take a1.toNat ++ l0.drop (a1.toNat + 1)) else none
theorem withoutRow (w2 w3 : World) (base g cap i : Nat) (cur cur3 : Array Value) (inner : List Value) (l0 r : List S25) (hE : l0.take i ++ l0.drop (i + 1) = r) (h1 : i < l0.length) (hg0 : base ≤ g) (q : l0.length ≤ cap ∧ cap ≤ maxLen ∧ cur.size = cap * k25.sz)
    (h_ : List.take (l0.length * k25.sz) cur.toList = inner ∧ inner.length = l0.length * k25.sz ∧ Reps (k25.M w2 base fun k => True ∧ some k ≠ (Value.slice (some ⟨g, 0, none⟩) l0.length cap).ownBlock) k25.sz l0 inner)
    (hg3 : w3.heap[g]? = some (.cells cur3 25 (0, 0))) (hs3 : cur3.size = cur.size) (ht3 : cur3.toList.take ((l0.length - (i + 1 - i)) * 3) = cur.toList.take (i * 3) ++ (cur.toList.take (l0.length * 3)).drop ((i + 1) * 3)) :
    Kd.R k25 25 w3 base (fun _ => True) (.slice (some ⟨g, 0, none⟩) (l0.length - (i + 1 - i)) cap) r := by
  rw [show k25.sz = 3 from rfl] at h_ q
  have hrl : r.length = l0.length - (i + 1 - i) := by rw [← hE, List.length_append, List.length_take, List.length_drop]; omega
  refine ⟨fun _ _ => trivial, cur3.toList.take ((l0.length - (i + 1 - i)) * 3), ⟨?_, .inr ⟨g, cap, cur3, by rw [hrl], hg0, hg3, by omega, q.2.1, by rw [hs3]; exact q.2.2, by rw [hrl]; rfl⟩⟩, ?_⟩
  · have hl3 : cur3.toList.length = cap * 3 := by rw [Array.length_toList, hs3, q.2.2]
    rw [hrl, List.length_take, hl3]
    show _ = _ * 3
    omega
  · rw [ht3, ← hE, h_.1]
    have hr1 := Kd.reps_take (m := i) h_.2.2 (by omega)
    rw [← h_.1, List.take_take, Nat.min_eq_left (by omega)] at hr1
    exact Kd.reps_append hr1 (Kd.reps_drop (m := i + 1) h_.2.2)
set_option maxHeartbeats 8000000 in
set_option maxRecDepth 1000000 in
theorem impl_withoutClue.calls (A0 : Option Addr) (c0 : Nat) (l0 : List S25) (a1 : Int) (r : List S25) (w : World) (hr0 : Kd.C k25 w A0 l0.length l0) (hc0 : l0.length ≤ c0) (h : impl_withoutClue.f l0 a1 = some r) :
    Calls Try.prog 94 #[.slice A0 l0.length c0, .int .i64 a1] w fun e w' => ∃ v0_ : Value, e = .returned (v0_) ∧ Kd.R k25 25 w' w.heap.size (fun _ => True) v0_ r ∧ Below w.heap.size w w' := by
  unfold impl_withoutClue.f at h
  split at h
  case isFalse => cases h
  case isTrue hl =>
  obtain ⟨h0, h1, h2⟩ := hl
  have HE : Aside0 (l0.take a1.toNat ++ l0.drop (a1.toNat + 1) = r) := ⟨Option.some.inj h⟩
  clear h
  obtain ⟨i, rfl⟩ : ∃ i : Nat, a1 = i := ⟨a1.toNat, by omega⟩
  rw [Int.toNat_natCast] at HE
  have w1 : IntKind.i64.wrap ((i : Int) + 1) = ((i + 1 : Nat) : Int) := by rw [Hw.wrap_w (by omega) (by omega)]; omega
  have HR := Aside0.mk hr0
  have HC := Aside0.mk hc0
  have H1 : Aside0 (i < l0.length) := ⟨by omega⟩
  have H2 := Aside0.mk h2
  clear hr0 hc0 h0 h1 h2
  go_enter Try.func94, Try.ntmps94
  go_wp2_with (first | (go_at_call 88; refine (cloneClue.calls w A0 c0 l0 HR.out HC.out H2.out).mono ?_; rintro e w2 ⟨v2, rfl, ho, hb⟩; obtain ⟨_, inner, hown, hreps⟩ := ho; obtain ⟨hil, hcase⟩ := hown; obtain ⟨g, cap, cur, rfl, hg0, hg, q1, q2, q3, q4⟩ := hcase.resolve_left (fun h_ => by have := H1.out; omega); have HG := Aside0.mk hg; have HG0 := Aside0.mk hg0; have HQ := Aside0.mk (And.intro q1 (And.intro q2 q3)); have HI := Aside0.mk (And.intro q4 (And.intro hil hreps)); have HB2 := Aside0.mk hb; clear hil hcase hreps hg0 hg q1 q2 q3 q4 hb) | (go_at_call 117; have hcall := delClue.calls w2 g i (i + 1) l0.length cap cur HG.out HQ.out.2.2 HQ.out.1 HQ.out.2.1 (Nat.lt_succ_self i) H1.out (by have h_ := HI.out; rw [show k25.sz = 3 from rfl] at h_; rw [h_.1]; exact Kd.reps_one h_.2.2 (by decide) (fun p c hp => k25.K_one (w := w2) (k25.K_of_M hp))); rw [show ((i + 1 : Nat) : Int) = (i : Int) + 1 from rfl] at hcall; refine hcall.mono ?_; clear hcall; rintro e w3 ⟨rfl, ⟨cur3, hg3, hs3, ht3⟩, hb3⟩; have HB3 : Aside0 (Below w.heap.size w w3) := ⟨HB2.out.trans (hb3.mono HG0.out)⟩; have HO3 := Aside0.mk (withoutRow w2 w3 w.heap.size g cap i cur cur3 inner l0 r HE.out H1.out HG0.out HQ.out HI.out hg3 hs3 ht3); clear hg3 hs3 ht3 hb3))
  go_ret
  exact ⟨_, rfl, by have h_ := HO3.out; rw [show l0.length - (i + 1 - i) = l0.length - 1 by omega] at h_; exact h_, HB3.out⟩


-- FOR impl.NeedlessClues
-- KIND rounds=0 making=1
-- CALLS impl.withoutClue ; impl.Solutions ; (impl.Puzzle).solutions ; impl.newReaches ; impl.IsPuzzle
-- USES info impl.Clue
-- USES info int
-- USES kd int
def withoutL (cs : List S25) (k : Nat) : List S25 := cs.take k ++ cs.drop (k + 1)
def needFrom (fl : Int) (cs : List S25) (al : Int) : Nat → Nat → List Int
  | 0, _ => []
  | n + 1, k => if ((solsF fl (withoutL cs k)).length : Int) = al then (k : Int) :: needFrom fl cs al n (k + 1) else needFrom fl cs al n (k + 1)
def impl_NeedlessClues.f (a0_0 : Int) (l0_1 : List S25) : Option (List Int × Bool) := (impl_IsPuzzle.f a0_0 l0_1).bind fun t => if t = true then some (needFrom a0_0 l0_1 (solsF a0_0 l0_1).length l0_1.length 0, true) else some ([], false)
set_option maxHeartbeats 8000000 in
set_option maxRecDepth 1000000 in
theorem impl_NeedlessClues.calls (a0_0 : Int) (A0_1 : Option Addr) (c0_1 : Nat) (l0_1 : List S25) (r1 : List Int) (r2 : Bool) (w : World) (hr0_1 : Kd.C k25 w A0_1 l0_1.length l0_1) (hc0_1 : l0_1.length ≤ c0_1) (h : impl_NeedlessClues.f a0_0 l0_1 = some (r1, r2)) :
    Calls Try.prog 56 #[.agg #[.int .i64 a0_0, .slice A0_1 l0_1.length c0_1]] w fun e w' => ∃ v0_ : Value, e = .returned (.tuple #[v0_, .bool r2]) ∧ Kd.R (Kd.int .i64) 3 w' w.heap.size (fun _ => True) v0_ r1 ∧ Below w.heap.size w w' := by
  have HB : Aside0 (Below w.heap.size w (w.alloc (Obj.cells #[Value.int IntKind.i64 a0_0, Value.slice A0_1 l0_1.length c0_1] 35))) := ⟨below_alloc (Below.refl _ _) _⟩
  have BK : Aside0 ((w.alloc (Obj.cells #[Value.int IntKind.i64 a0_0, Value.slice A0_1 l0_1.length c0_1] 35)).heap[w.heap.size]? = some (.cells #[Value.int IntKind.i64 a0_0, Value.slice A0_1 l0_1.length c0_1] 35 (0, 0))) := ⟨blk_new _ _⟩
  have HR := Aside0.mk hr0_1
  have HC := Aside0.mk hc0_1
  clear hr0_1 hc0_1
  obtain ⟨q, hq⟩ : ∃ q, impl_IsPuzzle.f a0_0 l0_1 = some q := ⟨_, rfl⟩
  unfold impl_NeedlessClues.f at h
  rw [hq, Option.bind_some] at h
  have HQ := Aside0.mk hq
  cases q with
  | false =>
    rw [if_neg (by decide)] at h
    simp only [Option.some.injEq, Prod.mk.injEq] at h
    obtain ⟨rfl, rfl⟩ := h
    clear hq
    go_enter Try.func56, Try.ntmps56
    go_wp2_with (first | (go_at_call 25; refine (impl_IsPuzzle.calls _ _ _ _ _ _ (Kd.C_below HR.out HB.out) HC.out HQ.out).mono ?_; rintro e w1 ⟨rfl, hb⟩; have HB1 := Aside0.mk (below_step HB.out hb); clear hb))
    go_ret2
    exact ⟨_, rfl, Kd.R_nil _ _ _ _ _, HB1.out⟩
  | true =>
    rw [if_pos rfl] at h
    have HO := Aside0.mk (isPuzzle_ok hq)
    clear hq
    simp only [Option.some.injEq, Prod.mk.injEq] at h
    obtain ⟨hr1, rfl⟩ := h
    have HR1 := Aside0.mk hr1
    obtain ⟨al, hal⟩ : ∃ al : Int, al = ((solsF a0_0 l0_1).length : Int) := ⟨_, rfl⟩
    rw [← hal] at HR1
    have hal' := hal.symm
    clear hr1 hal
    go_enter Try.func56, Try.ntmps56
    go_wp2_with (first | (go_at_call 25; refine (impl_IsPuzzle.calls _ _ _ _ _ _ (Kd.C_below HR.out HB.out) HC.out HQ.out).mono ?_; rintro e w1 ⟨rfl, hb⟩; have HB1 := Aside0.mk (below_step HB.out hb); have BK1 := Aside0.mk (blk_below BK.out hb); have c10 := (blk_cell BK1.out 0).trans rfl; have c11 := (blk_cell BK1.out 1).trans rfl; clear hb) | (go_at_call 86; refine (newReaches.calls _).mono ?_; rintro e w3 ⟨rfl, hr, hb⟩; have HR3 := Aside0.mk hr; have HB3 := Aside0.mk (below_step HB1.out hb); have BK3 := Aside0.mk (blk_below BK1.out hb); have HE3 := Aside0.mk (Hw.R_empty (Kd.int .i64) 3 w3 w.heap.size (fun k_ => w3.heap.size ≤ k_) (below_size HB3.out) (Nat.le_refl _)); have c30 := (blk_cell (blk_alloc BK3.out (Obj.cells #[] 3)) 0).trans rfl; have c31 := (blk_cell (blk_alloc BK3.out (Obj.cells #[] 3)) 1).trans rfl; clear hr hb c10 c11) | (go_at_call 101; refine (solutions.calls (w3.alloc (Obj.cells #[] 3)) w1.heap.size a0_0 A0_1 A0_1 l0_1.length c0_1 c0_1 l0_1 (by obtain ⟨cs, p1, p2⟩ := HR3.out; exact ⟨cs, blk_alloc p1 _, p2⟩) (Kd.C_below HR.out (below_alloc HB3.out _)) HC.out (by have := HO.out; omega) (by have := HO.out; omega) HO.out.2.2.2).mono ?_; rintro e w4 ⟨v4, rfl, ho4, hb⟩; obtain ⟨A4, c4, rfl⟩ := Kd.R_slice ho4; have HB4 := Aside0.mk (below_step (below_alloc HB3.out (Obj.cells #[] 3)) hb); have BK4 := Aside0.mk (blk_below (blk_alloc BK3.out (Obj.cells #[] 3)) hb); have HR4 : Aside0 (Rch w4 w1.heap.size) := ⟨by obtain ⟨cs, p1, p2⟩ := HR3.out; exact ⟨cs, blk_below (blk_alloc p1 _) hb, p2⟩⟩; have HO4 := Aside0.mk (Kd.R_below HE3.out hb); have HS4 : Aside0 (w3.heap.size ≤ w4.heap.size) := ⟨by have := hb.size; simp at this; omega⟩; have c40 := (blk_cell BK4.out 0).trans rfl; have c41 := (blk_cell BK4.out 1).trans rfl; clear hb ho4 c30 c31))
    have HW13 : Aside0 (w.heap.size < w1.heap.size) := ⟨blk_lt BK1.out⟩
    have HW33 : Aside0 (w1.heap.size < w3.heap.size) := ⟨by obtain ⟨cs, p1, p2⟩ := HR3.out; exact blk_lt p1⟩
    go_loopg [5, 22] l0_1.length (fun n v5 v22 w' => ∃ (i : Nat) (xs : List Int), v22 = .int .i64 i ∧ Aside0 (i + n = l0_1.length ∧ xs.length ≤ i) ∧ Aside0 (xs ++ needFrom a0_0 l0_1 al n i = r1) ∧ Aside0 (Kd.R (Kd.int .i64) 3 w' w.heap.size (fun k_ => w3.heap.size ≤ k_) v5 xs) ∧ Aside0 (w'.heap[w.heap.size]? = some (.cells #[.int .i64 a0_0, .slice A0_1 l0_1.length c0_1] 35 (0, 0))) ∧ Aside0 (Rch w' w1.heap.size) ∧ Aside0 (w3.heap.size ≤ w'.heap.size) ∧ Aside0 (Below w.heap.size w w'))
    case atStart => exact ⟨0, [], rfl, ⟨by simp⟩, ⟨by simpa using HR1.out⟩, HO4, BK4, HR4, HS4, HB4⟩
    case round =>
      clear c40 c41
      obtain ⟨i, xs, rfl, HI, HL, HO5, BP, HRc, HS3r, HBr⟩ := hrel
      have c0 := (blk_cell BP.out 0).trans rfl
      have c1 := (blk_cell BP.out 1).trans rfl
      by_cases hlt : i < l0_1.length
      · have d1 : decide (i < l0_1.length) = true := decide_eq_true hlt
        obtain ⟨k1, rfl⟩ : ∃ k1, gk = k1 + 1 := ⟨gk - 1, by have := HI.out; omega⟩
        have hi6 : i ≤ 6 := by have := HO.out; omega
        have w2 : IntKind.i64.wrap ((i : Int) + 1) = ((i + 1 : Nat) : Int) := by rw [Hw.wrap_w (by omega) (by omega)]; omega
        obtain ⟨y, hy⟩ : ∃ y : List S25, y = withoutL l0_1 i := ⟨_, rfl⟩
        have HWo : Aside0 (impl_withoutClue.f l0_1 (i : Int) = some y) := ⟨by unfold impl_withoutClue.f; rw [if_pos (by have := HO.out; omega), Int.toNat_natCast, hy]; rfl⟩
        have HYm : Aside0 (∀ x ∈ y, okA a0_0 x.f0 x.f1) := ⟨fun x hx => HO.out.2.2.2 x (by rw [hy] at hx; rcases List.mem_append.1 hx with h_ | h_; exact List.mem_of_mem_take h_; exact List.mem_of_mem_drop h_)⟩
        obtain ⟨z, hz⟩ : ∃ z : Int, z = ((solsF a0_0 y).length : Int) := ⟨_, rfl⟩
        have hz' := hz.symm
        have HXl : Aside0 (xs.length ≤ 7) := ⟨by have := HI.out; omega⟩
        obtain ⟨ys, hys⟩ : ∃ ys : List Int, ys = xs ++ [(i : Int)] := ⟨_, rfl⟩
        have Nys := Aside0.mk hys
        have HL2 : Aside0 (if z = al then ys ++ needFrom a0_0 l0_1 al k1 (i + 1) = r1 else xs ++ needFrom a0_0 l0_1 al k1 (i + 1) = r1) := ⟨by
          have h_ := HL.out
          rw [needFrom, ← hy, ← hz] at h_
          split
          · rename_i e_; rw [if_pos e_] at h_; rw [hys, ← h_]; simp
          · rename_i e_; rw [if_neg e_] at h_; exact h_⟩
        clear hy hys hlt HL hi6 hz
        by_cases hc : z = al
        · have d2 : (z == al) = true := beq_iff_eq.2 hc
          rw [if_pos hc] at HL2
          clear hc
          go_wp2
          go_region_held3 (fun w' => w'.cell? ⟨w.heap.size, 0, none⟩ = some (.int .i64 a0_0) ∧ w'.cell? ⟨w.heap.size, 1, none⟩ = some (.slice A0_1 l0_1.length c0_1)) (first | exact ⟨c0, c1⟩ | exact ⟨c50, c51⟩ | exact ⟨c60, c61⟩) (first
            | (go_at_call 94; refine (impl_withoutClue.calls A0_1 c0_1 l0_1 (i : Int) y wr.drew (Kd.C_below HR.out (below_drew1 HBr.out)) HC.out HWo.out).mono ?_; rintro e w5 ⟨v5_, rfl, ho5, hb⟩; obtain ⟨A5, c5, rfl⟩ := Kd.R_slice ho5; have HB5 := Aside0.mk (below_step (below_drew1 HBr.out) hb); have BK5 := Aside0.mk (blk_below (w := wr.drew) (blk_drew BP.out) hb); have HR5 : Aside0 (Rch w5 w1.heap.size) := ⟨by obtain ⟨cs, p1, p2⟩ := HRc.out; exact ⟨cs, blk_below (w := wr.drew) (blk_drew p1) hb, p2⟩⟩; have HO5' : Aside0 (Kd.R (Kd.int .i64) 3 w5 w.heap.size (fun k_ => w3.heap.size ≤ k_) u5 xs) := ⟨Kd.R_below (w := wr.drew) (Kd.R_drew HO5.out) hb⟩; have HS35 : Aside0 (w3.heap.size ≤ w5.heap.size) := ⟨Nat.le_trans HS3r.out hb.size⟩; have HY5 := Aside0.mk (Kd.R_reads' ho5); have c50 := (blk_cell BK5.out 0).trans rfl; have c51 := (blk_cell BK5.out 1).trans rfl; clear hb ho5)
            | (go_at_call 101; refine (solutions.calls w5 w1.heap.size a0_0 A0_1 A5 l0_1.length c0_1 c5 y HR5.out HY5.out.2.2 HY5.out.2.1 (by have := HO.out; omega) (by have := HO.out; omega) HYm.out).mono ?_; rintro e w6 ⟨v6_, rfl, ho6, hb⟩; obtain ⟨A6, c6, rfl⟩ := Kd.R_slice ho6; have HB6 := Aside0.mk (below_step HB5.out hb); have BK6 := Aside0.mk (blk_below BK5.out hb); have HR6 : Aside0 (Rch w6 w1.heap.size) := ⟨by obtain ⟨cs, p1, p2⟩ := HR5.out; exact ⟨cs, blk_below p1 hb, p2⟩⟩; have HO6 := Aside0.mk (Kd.R_below HO5'.out hb); have HS36 : Aside0 (w3.heap.size ≤ w6.heap.size) := ⟨Nat.le_trans HS35.out hb.size⟩; have c60 := (blk_cell BK6.out 0).trans rfl; have c61 := (blk_cell BK6.out 1).trans rfl; clear hb ho6))
          all_goals go_wp2_with (first | ((with_reducible refine gate_builtin (b := .append) (xs := #[.tmp 35, .tmp 37]) rfl ?_); at_builtin; refine Kd.R_append (Kd.int .i64) (w0 := w) (W := w6) w.heap.size rfl (.tmp 35) (.tmp 37) 55 3 (.int .i64 0) 8 rfl Try.underlying55 info3 rfl (by decide) (by omega) u5 xs (i : Int) [.int .i64 (i : Int)] (fun k_ => w3.heap.size ≤ k_) (fun _ => False) rfl rfl rfl (fun _ hk => hk.elim) ?aF HO6.out HB6.out (below_size HB6.out) (by have := HXl.out; omega) ?_; (case aF => exact (fun k_ hk => Nat.le_trans HS36.out hk)); intro v7 w7 ho hb hg hat; rw [← Nys.out] at ho; have BK7 := Aside0.mk (blk_grown BK6.out hg (fun h_ => by have h2_ : w3.heap.size ≤ w.heap.size := HO6.out.1 _ h_.symm; have := HW13.out; have := HW33.out; omega)); have HR7 : Aside0 (Rch w7 w1.heap.size) := ⟨by obtain ⟨cs, p1, p2⟩ := HR6.out; exact ⟨cs, blk_grown p1 hg (fun h_ => by have h2_ : w3.heap.size ≤ w1.heap.size := HO6.out.1 _ h_.symm; have := HW33.out; omega), p2⟩⟩; have HB7 := Aside0.mk hb; have HO7 := Aside0.mk ho; have HS7 : Aside0 (w3.heap.size ≤ w7.heap.size) := ⟨Nat.le_trans HS36.out hg.size⟩; clear ho hb hg hat))
          all_goals
            go_roundg k1
            case measure => omega
            case rel => exact ⟨i + 1, ys, rfl, ⟨by have := HI.out; have h_ : ys.length = xs.length + 1 := (by rw [Nys.out]; simp); omega⟩, HL2, HO7, BK7, HR7, HS7, HB7⟩
        · have d2 : (z == al) = false := beq_eq_false_iff_ne.2 hc
          rw [if_neg hc] at HL2
          clear hc
          go_wp2
          go_region_held3 (fun w' => w'.cell? ⟨w.heap.size, 0, none⟩ = some (.int .i64 a0_0) ∧ w'.cell? ⟨w.heap.size, 1, none⟩ = some (.slice A0_1 l0_1.length c0_1)) (first | exact ⟨c0, c1⟩ | exact ⟨c50, c51⟩ | exact ⟨c60, c61⟩) (first
            | (go_at_call 94; refine (impl_withoutClue.calls A0_1 c0_1 l0_1 (i : Int) y wr.drew (Kd.C_below HR.out (below_drew1 HBr.out)) HC.out HWo.out).mono ?_; rintro e w5 ⟨v5_, rfl, ho5, hb⟩; obtain ⟨A5, c5, rfl⟩ := Kd.R_slice ho5; have HB5 := Aside0.mk (below_step (below_drew1 HBr.out) hb); have BK5 := Aside0.mk (blk_below (w := wr.drew) (blk_drew BP.out) hb); have HR5 : Aside0 (Rch w5 w1.heap.size) := ⟨by obtain ⟨cs, p1, p2⟩ := HRc.out; exact ⟨cs, blk_below (w := wr.drew) (blk_drew p1) hb, p2⟩⟩; have HO5' : Aside0 (Kd.R (Kd.int .i64) 3 w5 w.heap.size (fun k_ => w3.heap.size ≤ k_) u5 xs) := ⟨Kd.R_below (w := wr.drew) (Kd.R_drew HO5.out) hb⟩; have HS35 : Aside0 (w3.heap.size ≤ w5.heap.size) := ⟨Nat.le_trans HS3r.out hb.size⟩; have HY5 := Aside0.mk (Kd.R_reads' ho5); have c50 := (blk_cell BK5.out 0).trans rfl; have c51 := (blk_cell BK5.out 1).trans rfl; clear hb ho5)
            | (go_at_call 101; refine (solutions.calls w5 w1.heap.size a0_0 A0_1 A5 l0_1.length c0_1 c5 y HR5.out HY5.out.2.2 HY5.out.2.1 (by have := HO.out; omega) (by have := HO.out; omega) HYm.out).mono ?_; rintro e w6 ⟨v6_, rfl, ho6, hb⟩; obtain ⟨A6, c6, rfl⟩ := Kd.R_slice ho6; have HB6 := Aside0.mk (below_step HB5.out hb); have BK6 := Aside0.mk (blk_below BK5.out hb); have HR6 : Aside0 (Rch w6 w1.heap.size) := ⟨by obtain ⟨cs, p1, p2⟩ := HR5.out; exact ⟨cs, blk_below p1 hb, p2⟩⟩; have HO6 := Aside0.mk (Kd.R_below HO5'.out hb); have HS36 : Aside0 (w3.heap.size ≤ w6.heap.size) := ⟨Nat.le_trans HS35.out hb.size⟩; have c60 := (blk_cell BK6.out 0).trans rfl; have c61 := (blk_cell BK6.out 1).trans rfl; clear hb ho6))
          all_goals go_wp2
          all_goals
            go_roundg k1
            case measure => omega
            case rel => exact ⟨i + 1, xs, rfl, ⟨by have := HI.out; omega⟩, HL2, HO6, BK6, HR6, HS36, HB6⟩
      · have d1 : decide (i < l0_1.length) = false := decide_eq_false hlt
        have HL2 : Aside0 (xs = r1) := ⟨by have := HI.out; rw [← HL.out, show gk = 0 by omega]; simp [needFrom]⟩
        clear hlt
        go_wp2
        go_ret2
        exact ⟨_, rfl, by rw [← HL2.out]; exact Kd.R_mono HO5.out (fun _ _ => trivial), HBr.out⟩


-- FOR laws.FnExactNeedlessClues
set_option maxHeartbeats 8000000 in
set_option maxRecDepth 100000 in
theorem hand_FnExactNeedlessClues (k : Nat) (a0_0 : Int) (A0_1 : Option Addr) (c0_1 : Nat) (l0_1 : List S23) (w : World) (hr0_1 : Kd.C k23 w A0_1 l0_1.length l0_1) (hc0_1 : l0_1.length ≤ c0_1)
    (F F' L Lx : List S25) (t : Int) (G Gm : List Int) (r2 : Bool) (kx m : Int) (s : Int) (hs : laws_szPuzzle.f a0_0 l0_1 1000000 = some s) (hs0 : 0 ≤ s)
    (hF : full_toClueS.f k l0_1 false = some F) (hL : F.take l0_1.length = L) (hLl : L.length = l0_1.length) (hF' : full_toClueS.f k l0_1 true = some F') (hF2 : l0_1.length ≠ 0 → F' = F) (hF0 : l0_1.length = 0 → F' = [])
    (ht : laws_roomBehind.f (l0_1.length : Int) = some t) (hn : wrap64 ((l0_1.length : Int) + t) = (F.length : Int)) (he : laws_eqClueS.f k F F = some true)
    (h1 : spec_NeedlessClues.f k a0_0 L = some (G, r2)) (h2 : impl_NeedlessClues.f a0_0 L = some (G, r2))
    (hq : laws_eqIntS.f k G G = some true) (hmx : laws_markPuzzle.f k a0_0 L 101 = some (kx, Lx)) (hkx : 0 ≤ kx) (hmg : laws_markIntS.f k G 101 = some (m, Gm)) (hhg : laws_heldIntS.f k Gm 101 = some m) (hm0 : 0 ≤ m) (hGm : Gm.length = G.length) :
    Calls Try.prog 16 #[.agg #[.int .i64 a0_0, .slice A0_1 l0_1.length c0_1]] w fun e w' => e = .returned (.bool true) ∧ Below w.heap.size w w' := by
  have HR := Aside0.mk hr0_1
  have HC := Aside0.mk hc0_1
  have H0 := Aside0.mk hs
  have hs1 : decide (s < 0) = false := decide_eq_false (by omega)
  have HF := Aside0.mk hF
  have HF' := Aside0.mk hF'
  have HT := Aside0.mk ht
  have HN := Aside0.mk hn
  have HE := Aside0.mk he
  have H1 := Aside0.mk h1
  have H2 := Aside0.mk h2
  have HF2 := Aside0.mk hF2
  have HF0 := Aside0.mk hF0
  have HL := Aside0.mk hL
  have HLl := Aside0.mk hLl
  have HQ := Aside0.mk hq
  have HMX := Aside0.mk hmx
  have HMG := Aside0.mk hmg
  have HHG := Aside0.mk hhg
  have HGm := Aside0.mk hGm
  have dk : decide (kx < 0) = false := decide_eq_false (by omega)
  have dm : decide (m < 0) = false := decide_eq_false (by omega)
  clear hq hmx hkx hmg hhg hm0 hGm hr0_1 hc0_1 hs hF hF' ht hn he h1 h2 hF2 hF0 hL hLl hs0
  go_enter Try.func16, Try.ntmps16
  go_wp2_with fail
  have HB : Aside0 (Below w.heap.size w (w.alloc (.cells #[.int .i64 a0_0, .slice A0_1 l0_1.length c0_1] 30 (0, 0)))) := ⟨below_alloc (Below.refl _ _) _⟩
  have BK : Aside0 ((w.alloc (.cells #[.int .i64 a0_0, .slice A0_1 l0_1.length c0_1] 30 (0, 0))).heap[w.heap.size]? = some (.cells #[.int .i64 a0_0, .slice A0_1 l0_1.length c0_1] 30 (0, 0))) := ⟨blk_new _ _⟩
  refine (laws_szPuzzle.calls a0_0 _ _ l0_1 _ _ _ (Kd.C_below HR.out HB.out) HC.out H0.out).mono ?_
  rintro e w1 ⟨rfl, hb⟩
  have HB1 : Aside0 (Below w.heap.size w w1) := ⟨below_step HB.out hb⟩
  have BK1 : Aside0 (w1.heap[w.heap.size]? = some (.cells #[.int .i64 a0_0, .slice A0_1 l0_1.length c0_1] 30 (0, 0))) := ⟨blk_below BK.out hb⟩
  clear HB BK hb
  have c10 := (blk_cell BK1.out 0).trans rfl
  have c11 := (blk_cell BK1.out 1).trans rfl
  go_wp2_with fail
  refine (full_toPuzzle k a0_0 _ _ l0_1 false F w1 (Kd.C_below HR.out HB1.out) HC.out HF.out).mono ?_
  rintro e w2 hp
  obtain ⟨A2, n2, c2, rfl, hR2, hn2, hb⟩ := hp
  obtain rfl : n2 = L.length := by rcases hn2 with h_ | ⟨h_, h2_⟩; exact h_.trans HLl.out.symm; exact h2_.trans (by rw [← HL.out, h_]; simp)
  have HB2 : Aside0 (Below w.heap.size w w2) := ⟨below_step HB1.out hb⟩
  have BK2 : Aside0 (w2.heap[w.heap.size]? = some (.cells #[.int .i64 a0_0, .slice A0_1 l0_1.length c0_1] 30 (0, 0))) := ⟨blk_below BK1.out hb⟩
  have HL2 : Aside0 (L.length ≤ F.length) := ⟨by rw [← HL.out, List.length_take]; omega⟩
  have hq := Kd.R_reads' hR2
  have HC2 : Aside0 (Kd.C k25 w2 A2 L.length L) := ⟨by have h_ := Hw.C_take hq.2.2 L.length HL2.out; rw [HLl.out, HL.out, ← HLl.out] at h_; exact h_⟩
  have HC2' : Aside0 (L.length ≤ c2) := ⟨Nat.le_trans HL2.out hq.2.1⟩
  clear HB1 BK1 hb c10 c11 hR2 hn2 hq
  go_wp2_with fail
  refine (spec_NeedlessClues.calls k a0_0 _ _ L G r2 w2 HC2.out HC2'.out H1.out).mono ?_
  rintro e w3 ⟨v3, rfl, ho, hb⟩
  obtain ⟨A3, c3, rfl⟩ := Kd.R_slice ho
  have HB3 : Aside0 (Below w.heap.size w w3) := ⟨below_step HB2.out hb⟩
  have HW : Aside0 (Kd.R (Kd.int .i64) 3 w3 w.heap.size (fun k_ => k_ < w3.heap.size) (.slice A3 G.length c3) G) := ⟨Kd.R_mono (Kd.R_bound (Kd.R_lower ho (below_size HB2.out))) (fun k_ hk => hk.2.2.1)⟩
  have BK3 : Aside0 (w3.heap[w.heap.size]? = some (.cells #[.int .i64 a0_0, .slice A0_1 l0_1.length c0_1] 30 (0, 0))) := ⟨blk_below BK2.out hb⟩
  clear HB2 BK2 hb HC2 HC2' ho
  have c30 := (blk_cell BK3.out 0).trans rfl
  have c31 := (blk_cell BK3.out 1).trans rfl
  go_wp2_with fail
  refine (full_toPuzzle k a0_0 _ _ l0_1 false F w3 (Kd.C_below HR.out HB3.out) HC.out HF.out).mono ?_
  rintro e w4 hp
  obtain ⟨A4, n4, c4, rfl, hR4, hn4, hb⟩ := hp
  obtain rfl : n4 = L.length := by rcases hn4 with h_ | ⟨h_, h2_⟩; exact h_.trans HLl.out.symm; exact h2_.trans (by rw [← HL.out, h_]; simp)
  have HB4 : Aside0 (Below w.heap.size w w4) := ⟨below_step HB3.out hb⟩
  have BK4 : Aside0 (w4.heap[w.heap.size]? = some (.cells #[.int .i64 a0_0, .slice A0_1 l0_1.length c0_1] 30 (0, 0))) := ⟨blk_below BK3.out hb⟩
  have hq := Kd.R_reads' hR4
  have HC4 : Aside0 (Kd.C k25 w4 A4 F.length F) := ⟨hq.2.2⟩
  have HC4' : Aside0 (F.length ≤ c4) := ⟨hq.2.1⟩
  have HXr : Aside0 (Kd.R k25 25 w4 w.heap.size (fun k_ => w3.heap.size ≤ k_ ∧ k_ < w4.heap.size) (.slice A4 L.length c4) L) := ⟨by
    have h_ := Hw.R_take hR4 L.length HL2.out
    rw [HLl.out, HL.out, ← HLl.out] at h_
    exact Kd.R_mono (Kd.R_lower (Kd.R_bound h_) (below_size HB3.out)) (fun k_ hk => ⟨hk.2.1, hk.2.2.1⟩)⟩
  have HW4 : Aside0 (Kd.R (Kd.int .i64) 3 w4 w.heap.size (fun k_ => k_ < w3.heap.size) (.slice A3 G.length c3) G) := ⟨Kd.R_below HW.out hb⟩
  have hs34 : w3.heap.size ≤ w4.heap.size := hb.size
  have HW0 : Aside0 (w.heap.size < w3.heap.size) := ⟨blk_lt BK3.out⟩
  clear HW HB3 BK3 hb c30 c31 hR4 hn4 hq
  go_wp2_with fail
  have HB4' : Aside0 (Below w.heap.size w (w4.alloc (.cells #[.int .i64 a0_0, .slice A4 L.length c4] 35 (0, 0)))) := ⟨below_alloc HB4.out _⟩
  have BX : Aside0 ((w4.alloc (.cells #[.int .i64 a0_0, .slice A4 L.length c4] 35 (0, 0))).heap[w4.heap.size]? = some (.cells #[.int .i64 a0_0, .slice A4 L.length c4] 35 (0, 0))) := ⟨blk_new _ _⟩
  have HC4a : Aside0 (Kd.C k25 (w4.alloc (.cells #[.int .i64 a0_0, .slice A4 L.length c4] 35 (0, 0))) A4 F.length F) := ⟨Kd.C_alloc HC4.out _⟩
  have BK4' : Aside0 ((w4.alloc (.cells #[.int .i64 a0_0, .slice A4 L.length c4] 35 (0, 0))).heap[w.heap.size]? = some (.cells #[.int .i64 a0_0, .slice A0_1 l0_1.length c0_1] 30 (0, 0))) := ⟨blk_alloc BK4.out _⟩
  have HC4L : Aside0 (Kd.C k25 (w4.alloc (.cells #[.int .i64 a0_0, .slice A4 L.length c4] 35 (0, 0))) A4 L.length L) := ⟨by have h_ := Hw.C_take HC4a.out L.length HL2.out; rw [HLl.out, HL.out, ← HLl.out] at h_; exact h_⟩
  refine (impl_NeedlessClues.calls a0_0 _ _ L G r2 _ HC4L.out (Nat.le_trans HL2.out HC4'.out) H2.out).mono ?_
  rintro e w5 ⟨v5, rfl, ho, hb⟩
  obtain ⟨A5, c5, rfl⟩ := Kd.R_slice ho
  have HB5 : Aside0 (Below w.heap.size w w5) := ⟨below_step HB4'.out hb⟩
  have BK5 : Aside0 (w5.heap[w.heap.size]? = some (.cells #[.int .i64 a0_0, .slice A0_1 l0_1.length c0_1] 30 (0, 0))) := ⟨blk_below BK4'.out hb⟩
  have BX5 : Aside0 (w5.heap[w4.heap.size]? = some (.cells #[.int .i64 a0_0, .slice A4 L.length c4] 35 (0, 0))) := ⟨blk_below BX.out hb⟩
  have HC5 : Aside0 (Kd.C k25 w5 A4 F.length F) := ⟨Kd.C_below HC4a.out hb⟩
  have HX5 : Aside0 (Kd.R k25 25 w5 w.heap.size (fun k_ => w3.heap.size ≤ k_ ∧ k_ < w4.heap.size) (.slice A4 L.length c4) L) := ⟨Kd.R_below (Kd.R_alloc HXr.out _) hb⟩
  have HW5 : Aside0 (Kd.R (Kd.int .i64) 3 w5 w.heap.size (fun k_ => k_ < w3.heap.size) (.slice A3 G.length c3) G) := ⟨Kd.R_below (Kd.R_alloc HW4.out _) hb⟩
  have HG5 : Aside0 (Kd.R (Kd.int .i64) 3 w5 w.heap.size (fun k_ => w4.heap.size + 1 ≤ k_ ∧ k_ < w5.heap.size) (.slice A5 G.length c5) G) := ⟨Kd.R_mono (Kd.R_lower (Kd.R_bound ho) (below_size HB4'.out)) (fun k_ hk => ⟨by have := hk.2.1; simpa using this, hk.2.2.1⟩)⟩
  clear HB4 HB4' BX HC4 HC4a BK4 BK4' HC4L hb ho HXr HW4
  go_wp2_with fail
  refine (laws_eqIntS.calls k _ _ G _ _ G true w5 (Kd.R_reads' HG5.out).2.2 (Kd.R_reads' HG5.out).2.1 (Kd.R_reads' HW5.out).2.2 (Kd.R_reads' HW5.out).2.1 HQ.out).mono ?_
  rintro e w6 ⟨rfl, ⟨nd, hnd⟩⟩
  have hb : Below w5.heap.size w5 w6 := by rw [hnd]; exact pw_below_drewN (Below.refl _ _) _
  have HB6 : Aside0 (Below w.heap.size w w6) := ⟨below_step HB5.out hb⟩
  have BK6 : Aside0 (w6.heap[w.heap.size]? = some (.cells #[.int .i64 a0_0, .slice A0_1 l0_1.length c0_1] 30 (0, 0))) := ⟨blk_below BK5.out hb⟩
  have BX6 : Aside0 (w6.heap[w4.heap.size]? = some (.cells #[.int .i64 a0_0, .slice A4 L.length c4] 35 (0, 0))) := ⟨blk_below BX5.out hb⟩
  have HC6 : Aside0 (Kd.C k25 w6 A4 F.length F) := ⟨Kd.C_below HC5.out hb⟩
  have HX6 := Aside0.mk (Kd.R_below HX5.out hb)
  have HW6 := Aside0.mk (Kd.R_below HW5.out hb)
  have HG6 := Aside0.mk (Kd.R_below HG5.out hb)
  clear HB5 BK5 BX5 HC5 HX5 HW5 HG5 hb hnd
  have hr2 : (r2 != r2) = false := by simp
  have c60 := (blk_cell BK6.out 0).trans rfl
  have c61 := (blk_cell BK6.out 1).trans rfl
  have d60 := (blk_cell BX6.out 0).trans rfl
  have d61 := (blk_cell BX6.out 1).trans rfl
  go_wp2_with fail
  have HB6' : Aside0 (∀ W, Below w6.heap.size w6 W → Below w.heap.size w W) := ⟨fun W h_ => below_step HB6.out h_⟩
  go_region_held3 (fun w' => w'.cell? ⟨w.heap.size, 0, none⟩ = some (.int .i64 a0_0) ∧ w'.cell? ⟨w.heap.size, 1, none⟩ = some (.slice A0_1 l0_1.length c0_1) ∧ w'.cell? ⟨w4.heap.size, 0, none⟩ = some (.int .i64 a0_0) ∧ w'.cell? ⟨w4.heap.size, 1, none⟩ = some (.slice A4 L.length c4)) (first | exact ⟨c60, c61, d60, d61⟩ | exact ⟨c70, c71, d70, d71⟩ | exact ⟨c80, c81, d80, d81⟩) (first
    | (go_at_call 24; refine (full_toPuzzle k a0_0 _ _ l0_1 false F _ (Kd.C_below HR.out (below_drew1 HB6.out)) HC.out HF.out).mono ?_; rintro e w7 hp; obtain ⟨A7, n7, c7, rfl, hR7, hn7, hb⟩ := hp; obtain rfl : n7 = L.length := (by rcases hn7 with h_ | ⟨h_, h2_⟩; exact h_.trans HLl.out.symm; exact h2_.trans (by rw [← HL.out, h_]; simp)); have hq7 := Kd.R_reads' hR7; have hb7 : Below w6.heap.size w6 w7 := below_step (below_drew1 (Below.refl _ _)) hb; have HB7 : Aside0 (Below w.heap.size w w7) := ⟨HB6'.out _ hb7⟩; have BK7 : Aside0 (w7.heap[w.heap.size]? = some (.cells #[.int .i64 a0_0, .slice A0_1 l0_1.length c0_1] 30 (0, 0))) := ⟨blk_below BK6.out hb7⟩; have BX7 : Aside0 (w7.heap[w4.heap.size]? = some (.cells #[.int .i64 a0_0, .slice A4 L.length c4] 35 (0, 0))) := ⟨blk_below BX6.out hb7⟩; have HC7 : Aside0 (Kd.C k25 w7 A4 F.length F) := ⟨Kd.C_below HC6.out hb7⟩; have HX7 := Aside0.mk (Kd.R_below HX6.out hb7); have HW7 := Aside0.mk (Kd.R_below HW6.out hb7); have HG7 := Aside0.mk (Kd.R_below HG6.out hb7); have HC7' : Aside0 (Kd.C k25 w7 A7 F.length F) := ⟨hq7.2.2⟩; have HC7c : Aside0 (F.length ≤ c7) := ⟨hq7.2.1⟩; have c70 := (blk_cell BK7.out 0).trans rfl; have c71 := (blk_cell BK7.out 1).trans rfl; have d70 := (blk_cell BX7.out 0).trans rfl; have d71 := (blk_cell BX7.out 1).trans rfl; clear hb hb7 hq7 hR7 hn7)
    | (go_at_call 26; refine (intact_Puzzle k a0_0 F A4 A7 L.length c4 c7 t w7 (by rw [HLl.out]; exact HT.out) (by rw [HLl.out]; exact HN.out) HC4'.out HC7c.out HC7.out HC7'.out HE.out).mono ?_; rintro e w8 ⟨rfl, hb⟩; have HB8 : Aside0 (Below w.heap.size w w8) := ⟨below_step HB7.out hb⟩; have BK8 : Aside0 (w8.heap[w.heap.size]? = some (.cells #[.int .i64 a0_0, .slice A0_1 l0_1.length c0_1] 30 (0, 0))) := ⟨blk_below BK7.out hb⟩; have BX8 : Aside0 (w8.heap[w4.heap.size]? = some (.cells #[.int .i64 a0_0, .slice A4 L.length c4] 35 (0, 0))) := ⟨blk_below BX7.out hb⟩; have HC8 : Aside0 (Kd.C k25 w8 A4 F.length F) := ⟨Kd.C_below HC7.out hb⟩; have HX8 := Aside0.mk (Kd.R_below HX7.out hb); have HW8 := Aside0.mk (Kd.R_below HW7.out hb); have HG8 := Aside0.mk (Kd.R_below HG7.out hb); have c80 := (blk_cell BK8.out 0).trans rfl; have c81 := (blk_cell BK8.out 1).trans rfl; have d80 := (blk_cell BX8.out 0).trans rfl; have d81 := (blk_cell BX8.out 1).trans rfl; clear hb))
  clear c60 c61 d60 d61 HB6 BK6 BX6 HC6 HX6 HW6 HG6 HB6'
  clear c70 c71 d70 d71 HB7 BK7 BX7 HC7 HX7 HW7 HG7
  go_wp2_with fail
  refine (laws_markPuzzle.calls k a0_0 _ _ L 101 kx Lx w w8 HB8.out HX8.out HMX.out).mono ?_
  rintro e w9 ⟨rfl, hx9, hb9, hk9⟩
  have HB9 : Aside0 (Below w.heap.size w w9) := ⟨hb9⟩
  have hsz := hs34
  have BK9 : Aside0 (w9.heap[w.heap.size]? = some (.cells #[.int .i64 a0_0, .slice A0_1 l0_1.length c0_1] 30 (0, 0))) := ⟨blk_kept BK8.out hk9 (fun h_ => by have := HW0.out; omega)⟩
  have HW9 := Aside0.mk (Kd.R_kept HW8.out hk9 (fun k_ h1_ h2_ => by omega))
  have HG9 := Aside0.mk (Kd.R_kept HG8.out hk9 (fun k_ h1_ h2_ => by omega))
  clear HB8 BK8 BX8 HC8 HX8 HW8 HG8 hx9 hb9 hk9 c80 c81 d80 d81
  go_wp2_with fail
  refine (laws_eqIntS.calls k _ _ G _ _ G true w9 (Kd.R_reads' HG9.out).2.2 (Kd.R_reads' HG9.out).2.1 (Kd.R_reads' HW9.out).2.2 (Kd.R_reads' HW9.out).2.1 HQ.out).mono ?_
  rintro e w10 ⟨rfl, ⟨nd, hnd⟩⟩
  have hb : Below w9.heap.size w9 w10 := by rw [hnd]; exact pw_below_drewN (Below.refl _ _) _
  have HB10 : Aside0 (Below w.heap.size w w10) := ⟨below_step HB9.out hb⟩
  have BK10 : Aside0 (w10.heap[w.heap.size]? = some (.cells #[.int .i64 a0_0, .slice A0_1 l0_1.length c0_1] 30 (0, 0))) := ⟨blk_below BK9.out hb⟩
  have HW10 := Aside0.mk (Kd.R_below HW9.out hb)
  have HG10 := Aside0.mk (Kd.R_below HG9.out hb)
  clear HB9 BK9 HW9 HG9 hb hnd
  go_wp2_with fail
  refine (laws_markIntS.calls k _ _ G 101 m Gm w w10 HB10.out HG10.out HMG.out).mono ?_
  rintro e w11 ⟨rfl, hx11, hb11, hk11⟩
  have HB11 : Aside0 (Below w.heap.size w w11) := ⟨hb11⟩
  have BK11 : Aside0 (w11.heap[w.heap.size]? = some (.cells #[.int .i64 a0_0, .slice A0_1 l0_1.length c0_1] 30 (0, 0))) := ⟨blk_kept BK10.out hk11 (fun h_ => by have := HW0.out; omega)⟩
  have HW11 := Aside0.mk (Kd.R_kept HW10.out hk11 (fun k_ h1_ h2_ => by omega))
  rw [← HGm.out] at hx11
  have HG11 := Aside0.mk hx11
  clear HB10 BK10 HW10 HG10 hx11 hb11 hk11
  go_wp2_with fail
  have hcall := laws_heldIntS.calls k A5 c5 Gm 101 m w11 (Kd.R_reads' HG11.out).2.2 (Kd.R_reads' HG11.out).2.1 HHG.out
  rw [HGm.out] at hcall
  refine hcall.mono ?_
  clear hcall
  rintro e w12 ⟨rfl, ⟨nd, hnd⟩⟩
  have hb : Below w11.heap.size w11 w12 := by rw [hnd]; exact pw_below_drewN (Below.refl _ _) _
  have HB12 : Aside0 (Below w.heap.size w w12) := ⟨below_step HB11.out hb⟩
  have BK12 : Aside0 (w12.heap[w.heap.size]? = some (.cells #[.int .i64 a0_0, .slice A0_1 l0_1.length c0_1] 30 (0, 0))) := ⟨blk_below BK11.out hb⟩
  have HW12 := Aside0.mk (Kd.R_below HW11.out hb)
  have HG12 := Aside0.mk (Kd.R_below HG11.out hb)
  clear HB11 BK11 HW11 HG11 hb hnd
  have c120 := (blk_cell BK12.out 0).trans rfl
  have c121 := (blk_cell BK12.out 1).trans rfl
  go_wp2_with fail
  refine (full_toPuzzle k a0_0 _ _ l0_1 true F' w12 (Kd.C_below HR.out HB12.out) HC.out HF'.out).mono ?_
  rintro e w13 hp
  obtain ⟨A13, n13, c13, rfl, hR13, hn13, hb⟩ := hp
  have hq13 := Kd.R_reads' hR13
  have H13a : n13 = L.length ∧ Kd.C k25 w13 A13 L.length L ∧ L.length ≤ c13 := by
    by_cases h0 : l0_1.length = 0
    · have h_ := HF0.out h0
      subst h_
      have hLn : L = [] := List.eq_nil_of_length_eq_zero (HLl.out.trans h0)
      subst hLn
      refine ⟨?_, hq13.2.2, Nat.zero_le _⟩
      rcases hn13 with h_ | ⟨_, h2_⟩
      · rw [h_, h0]; rfl
      · exact h2_
    · have h_ := HF2.out h0
      subst h_
      refine ⟨?_, ?_, Nat.le_trans HL2.out hq13.2.1⟩
      · rcases hn13 with h_ | ⟨h_, h2_⟩
        · exact h_.trans HLl.out.symm
        · exact h2_.trans (by rw [← HL.out, h_]; simp)
      · have h_ := Hw.C_take hq13.2.2 L.length HL2.out
        rw [HLl.out, HL.out, ← HLl.out] at h_
        exact h_
  obtain ⟨rfl, h131, h132⟩ := H13a
  have HB13 : Aside0 (Below w.heap.size w w13) := ⟨below_step HB12.out hb⟩
  have H13a1 := Aside0.mk h131
  have H13a2 := Aside0.mk h132
  have BK13 : Aside0 (w13.heap[w.heap.size]? = some (.cells #[.int .i64 a0_0, .slice A0_1 l0_1.length c0_1] 30 (0, 0))) := ⟨blk_below BK12.out hb⟩
  have HW13 := Aside0.mk (Kd.R_below HW12.out hb)
  have HG13 := Aside0.mk (Kd.R_below HG12.out hb)
  clear HB12 BK12 HW12 HG12 hb hR13 hn13 hq13 h131 h132
  go_wp2_with fail
  go_wp2_with fail
  refine (impl_NeedlessClues.calls a0_0 _ _ L G r2 w13 H13a1.out H13a2.out H2.out).mono ?_
  rintro e w14 ⟨v14, rfl, ho, hb⟩
  obtain ⟨A14, c14, rfl⟩ := Kd.R_slice ho
  have HB14 : Aside0 (Below w.heap.size w w14) := ⟨below_step HB13.out hb⟩
  have BK14 : Aside0 (w14.heap[w.heap.size]? = some (.cells #[.int .i64 a0_0, .slice A0_1 l0_1.length c0_1] 30 (0, 0))) := ⟨blk_below BK13.out hb⟩
  have HW14 := Aside0.mk (Kd.R_below HW13.out hb)
  have HG14 := Aside0.mk (Kd.R_below HG13.out hb)
  have HH14 := Aside0.mk ho
  clear HB13 BK13 HW13 HG13 hb ho
  go_wp2_with fail
  refine (laws_eqIntS.calls k _ _ G _ _ G true w14 (Kd.R_reads' HH14.out).2.2 (Kd.R_reads' HH14.out).2.1 (Kd.R_reads' HW14.out).2.2 (Kd.R_reads' HW14.out).2.1 HQ.out).mono ?_
  rintro e w15 ⟨rfl, ⟨nd, hnd⟩⟩
  have hb : Below w14.heap.size w14 w15 := by rw [hnd]; exact pw_below_drewN (Below.refl _ _) _
  have HB15 : Aside0 (Below w.heap.size w w15) := ⟨below_step HB14.out hb⟩
  have BK15 : Aside0 (w15.heap[w.heap.size]? = some (.cells #[.int .i64 a0_0, .slice A0_1 l0_1.length c0_1] 30 (0, 0))) := ⟨blk_below BK14.out hb⟩
  have HW15 := Aside0.mk (Kd.R_below HW14.out hb)
  have HG15 := Aside0.mk (Kd.R_below HG14.out hb)
  clear HB14 BK14 HW14 HG14 HH14 hb hnd
  go_wp2_with fail
  have hcall := laws_heldIntS.calls k A5 c5 Gm 101 m w15 (Kd.R_reads' HG15.out).2.2 (Kd.R_reads' HG15.out).2.1 HHG.out
  rw [HGm.out] at hcall
  refine hcall.mono ?_
  clear hcall
  rintro e w16 ⟨rfl, ⟨nd, hnd⟩⟩
  have hb : Below w15.heap.size w15 w16 := by rw [hnd]; exact pw_below_drewN (Below.refl _ _) _
  have HB16 : Aside0 (Below w.heap.size w w16) := ⟨below_step HB15.out hb⟩
  clear hb hnd
  go_wp2
  go_ret
  exact ⟨rfl, HB16.out⟩
set_option maxHeartbeats 8000000 in
set_option maxRecDepth 100000 in
theorem big_FnExactNeedlessClues (a0_0 : Int) (A0_1 : Option Addr) (c0_1 : Nat) (l0_1 : List S23) (w : World) (hr0_1 : Kd.C k23 w A0_1 l0_1.length l0_1) (hc0_1 : l0_1.length ≤ c0_1)
    (s : Int) (hs : laws_szPuzzle.f a0_0 l0_1 1000000 = some s) (hs0 : s < 0) :
    Calls Try.prog 16 #[.agg #[.int .i64 a0_0, .slice A0_1 l0_1.length c0_1]] w fun e w' => e = .returned (.bool true) ∧ Below w.heap.size w w' := by
  have HR := Aside0.mk hr0_1
  have HC := Aside0.mk hc0_1
  have H0 := Aside0.mk hs
  have hs1 : decide (s < 0) = true := decide_eq_true hs0
  clear hr0_1 hc0_1 hs hs0
  go_enter Try.func16, Try.ntmps16
  go_wp2_with fail
  have HB : Aside0 (Below w.heap.size w (w.alloc (.cells #[.int .i64 a0_0, .slice A0_1 l0_1.length c0_1] 30 (0, 0)))) := ⟨below_alloc (Below.refl _ _) _⟩
  refine (laws_szPuzzle.calls a0_0 _ _ l0_1 _ _ _ (Kd.C_below HR.out HB.out) HC.out H0.out).mono ?_
  rintro e w1 ⟨rfl, hb⟩
  have HB1 : Aside0 (Below w.heap.size w w1) := ⟨below_step HB.out hb⟩
  clear HB hb
  go_wp2
  go_ret
  exact ⟨rfl, HB1.out⟩


end Go.Proofs.Ytbkplokoomodcaa.N
