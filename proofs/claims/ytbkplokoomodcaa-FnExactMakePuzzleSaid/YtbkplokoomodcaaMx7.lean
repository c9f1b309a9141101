/- Plain Lean functions with the answers of Go functions, and proofs of it: printed by a program of this session (pr.py) over the kit's print, with hand-written parts. -/
import Derived.Test.YtbkplokoomodcaaMx0
import Derived.Test.YtbkplokoomodcaaMx4
import Derived.Test.YtbkplokoomodcaaMx5
import Derived.Test.YtbkplokoomodcaaMx6
namespace Go.Proofs.Ytbkplokoomodcaa.M
open Go.RowKit Go.Proofs.YtbkplokoomodcaaW.PrintWords Go.Proofs.YtbkplokoomodcaaW.PrintLast Go.Proofs.YtbkplokoomodcaaW.PrintMore
attribute [local go_sem] max2_int min2_int max_two min_two max_three min_three max_four min_four   -- for this text's walks alone
set_option linter.unusedVariables false
set_option linter.unusedSimpArgs false

-- FOR impl.MakePuzzle
-- KIND rounds=0 making=1
-- CALLS impl.isHiddenHouse ; impl.isBreak ; impl.within ; impl.newReaches ; (*impl.reaches).asHas
-- USES info impl.Clue
-- USES kd impl.Clue
def mkNext (z : Int) : Int := (z * 211 + 2269) % 10007
theorem mkNext_ok {z : Int} (h0 : 0 ≤ z) : 0 ≤ mkNext z ∧ mkNext z ≤ 10006 := by
  unfold mkNext
  omega
set_option maxHeartbeats 8000000 in
set_option maxRecDepth 1000000 in
theorem mkNext.calls (w : World) (g : Nat) (z : Int) (hb : w.heap[g]? = some (.cells #[.int .i64 z] 3 (0, 0))) (h0 : 0 ≤ z) (h1 : z ≤ 10006) :
    Calls Try.prog 97 #[.pointer (some ⟨g, 0, none⟩)] w fun e w' => e = .returned (.int .i64 (mkNext z)) ∧ w' = w.setCell ⟨g, 0, none⟩ (.int .i64 (mkNext z)) := by
  have c0 := (blk_cell hb 0).trans rfl
  have f0 := blk_frozen hb 0
  have w1 : IntKind.i64.wrap (z * 211) = z * 211 := Hw.wrap_w (by omega) (by omega)
  have w2 : IntKind.i64.wrap (z * 211 + 2269) = z * 211 + 2269 := Hw.wrap_w (by omega) (by omega)
  have hm := mkNext_ok h0
  have w3 : IntKind.i64.wrap ((z * 211 + 2269) % 10007) = (z * 211 + 2269) % 10007 := Hw.wrap_w (by unfold mkNext at hm; omega) (by unfold mkNext at hm; omega)
  have c1 : (w.setCell ⟨g, 0, none⟩ (.int .i64 ((z * 211 + 2269) % 10007))).cell? ⟨g, 0, none⟩ = some (.int .i64 ((z * 211 + 2269) % 10007)) := (blk_cell (blk_set hb 0 _) 0).trans rfl
  clear hm
  go_enter Try.func97, Try.ntmps97
  go_wp2
  go_ret
  exact ⟨rfl, rfl⟩
def mkA (fl k y : Int) : Int := if k = 0 then y.tmod fl + 1 else if k = 1 then y.tmod 8 + 2 else if k = 2 then y.tmod 3 + 1 else if k = 3 then y.tmod 3 + 1 else y.tmod (fl + 1)
def mkFrom (fl br : Int) : Nat → Int → List S25
  | 0, _ => []
  | n + 1, z => ⟨(mkNext z).tmod 5, mkA fl ((mkNext z).tmod 5) (mkNext (mkNext z)), asHasV fl ((mkNext z).tmod 5) (mkA fl ((mkNext z).tmod 5) (mkNext (mkNext z))) br⟩ :: mkFrom fl br n (mkNext (mkNext z))
theorem mkA_ok {fl y : Int} (h : 1 ≤ fl) (hf : fl ≤ 40) (hy : 0 ≤ y) (k : Int) (hk : 0 ≤ k ∧ k ≤ 4) : okA fl k (mkA fl k y) := by
  have h1 := Int.tmod_nonneg fl hy
  have h2 := Int.tmod_lt_of_pos y (show 0 < fl by omega)
  have h3 := Int.tmod_nonneg (fl + 1) hy
  have h4 := Int.tmod_lt_of_pos y (show 0 < fl + 1 by omega)
  have h5 := Int.tmod_nonneg 8 hy
  have h6 := Int.tmod_nonneg 3 hy
  have h7 := Int.tmod_lt_of_pos y (show (0 : Int) < 8 by decide)
  have h8 := Int.tmod_lt_of_pos y (show (0 : Int) < 3 by decide)
  unfold okA mkA
  rcases (by omega : k = 0 ∨ k = 1 ∨ k = 2 ∨ k = 3 ∨ k = 4) with rfl | rfl | rfl | rfl | rfl <;> simp <;> omega
def impl_MakePuzzle.f (a0 a1 a2 a3 : Int) : Option (Int × List S25 × Bool) := (impl_isHiddenHouse.f a0).bind fun b1 => (impl_isBreak.f a0 a1).bind fun b2 => (impl_within.f a2 0 6).bind fun b3 => (impl_within.f a3 0 9999).bind fun b4 => if (b1 && b2 && b3 && b4) = true then some (a0, mkFrom a0 a1 a2.toNat a3, true) else some (0, [], false)
theorem mk_within {a b c : Int} : impl_within.f a b c = some (decide (b ≤ a) && decide (a ≤ c)) := by
  unfold impl_within.f
  split
  · rename_i h; rw [decide_eq_true (show b ≤ a from h), Bool.true_and]
  · rename_i h; rw [decide_eq_false (show ¬ b ≤ a from h), Bool.false_and]
theorem mk_hidden {a : Int} : impl_isHiddenHouse.f a = some (decide (1 ≤ a) && decide (a ≤ 40)) := by
  unfold impl_isHiddenHouse.f
  rw [mk_within]
  rfl
theorem mk_break {a b : Int} : impl_isBreak.f a b = some (decide (0 ≤ b) && decide (b ≤ a)) := by
  unfold impl_isBreak.f
  rw [mk_within]
  rfl
set_option maxHeartbeats 8000000 in
set_option maxRecDepth 1000000 in
theorem impl_MakePuzzle.calls (a0 a1 a2 a3 : Int) (r1 : Int) (r2 : List S25) (r3 : Bool) (w : World) (h : impl_MakePuzzle.f a0 a1 a2 a3 = some (r1, r2, r3)) :
    Calls Try.prog 37 #[.int .i64 a0, .int .i64 a1, .int .i64 a2, .int .i64 a3] w fun e w' => ∃ v1_ : Value, e = .returned (.tuple #[.agg #[.int .i64 r1, v1_], .bool r3]) ∧ Kd.R k25 25 w' w.heap.size (fun _ => True) v1_ r2 ∧ Below w.heap.size w w' := by
  have HB : Aside0 (Below w.heap.size w (w.alloc (Obj.cells #[.int .i64 0, .slice none 0 0] 35))) := ⟨below_alloc (Below.refl _ _) _⟩
  have BR : Aside0 ((w.alloc (Obj.cells #[.int .i64 0, .slice none 0 0] 35)).heap[w.heap.size]? = some (.cells #[.int .i64 0, .slice none 0 0] 35 (0, 0))) := ⟨blk_new _ _⟩
  obtain ⟨b1, h1⟩ : ∃ b, impl_isHiddenHouse.f a0 = some b := ⟨_, mk_hidden⟩
  obtain ⟨b2, h2⟩ : ∃ b, impl_isBreak.f a0 a1 = some b := ⟨_, mk_break⟩
  obtain ⟨b3, h3⟩ : ∃ b, impl_within.f a2 0 6 = some b := ⟨_, mk_within⟩
  obtain ⟨b4, h4⟩ : ∃ b, impl_within.f a3 0 9999 = some b := ⟨_, mk_within⟩
  unfold impl_MakePuzzle.f at h
  rw [h1, h2, h3, h4, Option.bind_some, Option.bind_some, Option.bind_some, Option.bind_some] at h
  have H1 := Aside0.mk h1
  have H2 := Aside0.mk h2
  have H3 := Aside0.mk h3
  have H4 := Aside0.mk h4
  clear h1 h2 h3 h4
  by_cases hg : (b1 && b2 && b3 && b4) = true
  · rw [if_pos hg] at h
    simp only [Bool.and_eq_true] at hg
    obtain ⟨⟨⟨rfl, rfl⟩, rfl⟩, rfl⟩ := hg
    have HG : Aside0 (1 ≤ a0 ∧ a0 ≤ 40 ∧ 0 ≤ a1 ∧ a1 ≤ a0 ∧ 0 ≤ a2 ∧ a2 ≤ 6 ∧ 0 ≤ a3 ∧ a3 ≤ 9999) := ⟨by
      have q1 := H1.out
      have q2 := H2.out
      have q3 := H3.out
      have q4 := H4.out
      rw [mk_hidden] at q1
      rw [mk_break] at q2
      rw [mk_within] at q3 q4
      simp only [Option.some.injEq, Bool.and_eq_true, decide_eq_true_eq] at q1 q2 q3 q4
      omega⟩
    simp only [Option.some.injEq, Prod.mk.injEq] at h
    obtain ⟨rfl, hr2, rfl⟩ := h
    have HR2 := Aside0.mk hr2
    clear hr2
    have hmf : ∀ (fn : Fn) (first cap : Array Value) (w : World), (Instr.makeFunc fn first cap).run Try.prog w = .ok (.func fn first cap) w := fun _ _ _ _ => rfl
    go_enter Try.func37, Try.ntmps37
    go_wp2_with (first
      | (go_at_call 74; refine (impl_isHiddenHouse.calls _ _ _ H1.out).mono ?_; rintro e w1 ⟨rfl, ⟨nd, hnd⟩⟩; have HB1 : Aside0 (Below w.heap.size w w1) := ⟨by rw [hnd]; exact pw_below_drewN HB.out _⟩; have BR1 : Aside0 (w1.heap[w.heap.size]? = some (.cells #[.int .i64 0, .slice none 0 0] 35 (0, 0))) := ⟨by rw [hnd]; exact blk_drewN BR.out _⟩; clear hnd)
      | (go_at_call 77; refine (impl_isBreak.calls _ _ _ _ H2.out).mono ?_; rintro e w2 ⟨rfl, ⟨nd, hnd⟩⟩; have HB2 : Aside0 (Below w.heap.size w w2) := ⟨by rw [hnd]; exact pw_below_drewN HB1.out _⟩; have BR2 : Aside0 (w2.heap[w.heap.size]? = some (.cells #[.int .i64 0, .slice none 0 0] 35 (0, 0))) := ⟨by rw [hnd]; exact blk_drewN BR1.out _⟩; clear hnd)
      | (go_at_call 75; with_reducible refine (impl_within.calls _ _ _ _ _ H3.out).mono ?_; rintro e w3 ⟨rfl, ⟨nd, hnd⟩⟩; have HB3 : Aside0 (Below w.heap.size w w3) := ⟨by rw [hnd]; exact pw_below_drewN HB2.out _⟩; have BR3 : Aside0 (w3.heap[w.heap.size]? = some (.cells #[.int .i64 0, .slice none 0 0] 35 (0, 0))) := ⟨by rw [hnd]; exact blk_drewN BR2.out _⟩; clear hnd)
      | (go_at_call 75; with_reducible refine (impl_within.calls _ _ _ _ _ H4.out).mono ?_; rintro e w4 ⟨rfl, ⟨nd, hnd⟩⟩; have HB4 : Aside0 (Below w.heap.size w w4) := ⟨by rw [hnd]; exact pw_below_drewN HB3.out _⟩; have BR4 : Aside0 (w4.heap[w.heap.size]? = some (.cells #[.int .i64 0, .slice none 0 0] 35 (0, 0))) := ⟨by rw [hnd]; exact blk_drewN BR3.out _⟩; clear hnd)
      | (go_at_call 86; refine (newReaches.calls _).mono ?_; rintro e w5 ⟨rfl, hr, hb⟩; have HRc5 := Aside0.mk hr; have HB5 := Aside0.mk (below_step HB4.out hb); have BR5 := Aside0.mk (blk_below BR4.out hb); clear hr hb))
    have HW4 : Aside0 (w.heap.size < w4.heap.size) := ⟨blk_lt BR4.out⟩
    have HW5 : Aside0 (w4.heap.size < w5.heap.size) := ⟨by obtain ⟨cs, p1, p2⟩ := HRc5.out; exact blk_lt p1⟩
    have h31 : a2 ≤ 6 := HG.out.2.2.2.2.2.1
    go_loopg [42] a2.toNat (fun n v42 w' => ∃ (i : Nat) (z : Int) (v : Value) (xs : List S25), v42 = .int .i64 i ∧ Aside0 ((i : Int) + n = a2 ∧ xs.length ≤ i ∧ 0 ≤ z ∧ z ≤ 10006) ∧ Aside0 (xs ++ mkFrom a0 a1 n z = r2) ∧ Aside0 (Kd.R k25 25 w' w.heap.size (fun k_ => w5.heap.size + 2 ≤ k_) v xs) ∧ Aside0 (w'.heap[w5.heap.size]? = some (.cells #[.int .i64 a0, v] 35 (0, 0))) ∧ Aside0 (w'.heap[w5.heap.size + 1]? = some (.cells #[.int .i64 z] 3 (0, 0))) ∧ Aside0 (w'.heap[w.heap.size]? = some (.cells #[.int .i64 0, .slice none 0 0] 35 (0, 0))) ∧ Aside0 (Rch w' w4.heap.size) ∧ Aside0 (w5.heap.size + 2 ≤ w'.heap.size) ∧ Aside0 (Below w.heap.size w w'))
    case atStart =>
      refine ⟨0, a3, .slice none 0 0, [], rfl, ⟨by have := HG.out; simp; omega⟩, ⟨by simpa using HR2.out⟩, ⟨Kd.R_nil _ _ _ _ _⟩, ⟨blk_alloc (blk_new _ _) _⟩, ⟨?_⟩, ⟨blk_alloc (blk_alloc BR5.out _) _⟩, ⟨?_⟩, ⟨by simp⟩, ⟨below_alloc (below_alloc HB5.out _) _⟩⟩
      · have h_ := blk_new (w5.alloc (.cells #[.int .i64 a0, .slice none 0 0] 35)) (.cells #[.int .i64 a3] 3)
        rwa [World.size_alloc] at h_
      · obtain ⟨cs, p1, p2⟩ := HRc5.out
        exact ⟨cs, blk_alloc (blk_alloc p1 _) _, p2⟩
    case round =>
      obtain ⟨i, z, v, xs, rfl, HI, HL, HO5, BP, BZ, BR, HRc, HSr, HBr⟩ := hrel
      by_cases hlt : (i : Int) < a2
      · have d1 : decide ((i : Int) < a2) = true := decide_eq_true hlt
        obtain ⟨k1, rfl⟩ : ∃ k1, gk = k1 + 1 := ⟨gk - 1, by have := HI.out; omega⟩
        have w2_ : IntKind.i64.wrap ((i : Int) + 1) = ((i + 1 : Nat) : Int) := by rw [Hw.wrap_w (by omega) (by omega)]; omega
        obtain ⟨z1, hz1⟩ : ∃ z1, z1 = mkNext z := ⟨_, rfl⟩
        obtain ⟨z2, hz2⟩ : ∃ z2, z2 = mkNext z1 := ⟨_, rfl⟩
        have m1 := mkNext_ok (z := z) HI.out.2.2.1
        have m2 := mkNext_ok (z := z1) (by rw [hz1]; exact m1.1)
        rw [← hz1] at m1
        rw [← hz2] at m2
        obtain ⟨kk, hkk⟩ : ∃ kk, z1.tmod 5 = kk := ⟨_, rfl⟩
        have hk5 : 0 ≤ kk ∧ kk ≤ 4 := by have h1_ := Int.tmod_nonneg 5 m1.1; have h2_ := Int.tmod_lt_of_pos z1 (show (0 : Int) < 5 by decide); omega
        have wk : IntKind.i64.wrap kk = kk := Hw.wrap_w (by omega) (by omega)
        obtain ⟨aA, haA⟩ : ∃ aA, mkA a0 kk z2 = aA := ⟨_, rfl⟩
        have hOK : okA a0 kk aA := by rw [← haA]; exact mkA_ok HG.out.1 HG.out.2.1 m2.1 kk hk5
        have HOK := Aside0.mk hOK
        have HZ1 := Aside0.mk hz1
        have HZ2 := Aside0.mk hz2
        have HM1 := Aside0.mk m1
        have HM2 := Aside0.mk m2
        obtain ⟨ys, hys⟩ : ∃ ys : List S25, ys = xs ++ [⟨kk, aA, asHasV a0 kk aA a1⟩] := ⟨_, rfl⟩
        have Nys := Aside0.mk hys
        have HL2 : Aside0 (ys ++ mkFrom a0 a1 k1 z2 = r2) := ⟨by
          have h_ := HL.out
          rw [mkFrom, ← hz1, ← hz2, hkk, haA] at h_
          rw [hys, ← h_]; simp⟩
        have HXl : Aside0 (xs.length ≤ 6) := ⟨by have := HI.out; omega⟩
        have HAA := Aside0.mk haA
        clear hz1 hz2 m1 m2 hOK hys hlt HL haA
        rcases (by omega : kk = 0 ∨ kk = 1 ∨ kk = 2 ∨ kk = 3 ∨ kk = 4) with rfl | rfl | rfl | rfl | rfl
        · have e0 := HAA.out
          simp only [mkA, if_true] at e0
          have g1 := Int.tmod_nonneg a0 HM2.out.1
          have g2 := Int.tmod_lt_of_pos z2 (show 0 < a0 by have := HG.out; omega)
          have gz : (a0 = 0) = False := eq_false (by have := HG.out; omega)
          have wt : IntKind.i64.wrap (z2.tmod a0) = z2.tmod a0 := Hw.wrap_w (by omega) (by have := HG.out; omega)
          have wt2 : IntKind.i64.wrap (z2.tmod a0 + 1) = aA := by rw [Hw.wrap_w (by omega) (by have := HG.out; omega)]; exact e0
          clear g1 g2 e0
          go_wp2_with (first
            | (go_at_call 97; (with_reducible refine (mkNext.calls wr (w5.heap.size + 1) z BZ.out HI.out.2.2.1 HI.out.2.2.2).mono ?_); rintro e wa ⟨he, hw⟩; rw [← HZ1.out] at he hw; subst he; have hsz : wa.heap.size = wr.heap.size := (by rw [hw]; simp); have BPa := Aside0.mk (show wa.heap[w5.heap.size]? = some (.cells #[.int .i64 a0, v] 35 (0, 0)) by rw [hw]; exact blk_far BP.out (by simp) _); have BZa := Aside0.mk (show wa.heap[w5.heap.size + 1]? = some (.cells #[.int .i64 z1] 3 (0, 0)) by rw [hw]; exact blk_put BZ.out 0 _ rfl); have BRa := Aside0.mk (show wa.heap[w.heap.size]? = some (.cells #[.int .i64 0, .slice none 0 0] 35 (0, 0)) by rw [hw]; exact blk_far BR.out (by have := HW4.out; have := HW5.out; simp; omega) _); have HRa : Aside0 (Rch wa w4.heap.size) := ⟨by obtain ⟨cs, p1, p2⟩ := HRc.out; exact ⟨cs, by rw [hw]; exact blk_far p1 (by have := HW5.out; simp; omega) _, p2⟩⟩; have HOa := Aside0.mk (show Kd.R k25 25 wa w.heap.size (fun k_ => w5.heap.size + 2 ≤ k_) v xs by rw [hw]; exact Kd.R_far HO5.out (fun k_ hk => by simp; omega) _); have HBa := Aside0.mk (show Below w.heap.size w wa by rw [hw]; exact below_set HBr.out (by have := HW4.out; have := HW5.out; omega)); have HSa := Aside0.mk hsz; clear hw hsz)
            | (go_at_call 97; (with_reducible refine (mkNext.calls (wa.alloc (.cells #[.int .i64 0, .int .i64 0, .int .i64 0] 25 (0, 0))) (w5.heap.size + 1) z1 (blk_alloc BZa.out _) HM1.out.1 HM1.out.2).mono ?_); rintro e wb ⟨he, hw⟩; rw [← HZ2.out] at he hw; subst he; have hsz : wb.heap.size = wa.heap.size + 1 := (by rw [hw]; simp); have BPb := Aside0.mk (show wb.heap[w5.heap.size]? = some (.cells #[.int .i64 a0, v] 35 (0, 0)) by rw [hw]; exact blk_far (blk_alloc BPa.out _) (by simp) _); have BZb := Aside0.mk (show wb.heap[w5.heap.size + 1]? = some (.cells #[.int .i64 z2] 3 (0, 0)) by rw [hw]; exact blk_put (blk_alloc BZa.out _) 0 _ rfl); have BRb := Aside0.mk (show wb.heap[w.heap.size]? = some (.cells #[.int .i64 0, .slice none 0 0] 35 (0, 0)) by rw [hw]; exact blk_far (blk_alloc BRa.out _) (by have := HW4.out; have := HW5.out; simp; omega) _); have HRb : Aside0 (Rch wb w4.heap.size) := ⟨by obtain ⟨cs, p1, p2⟩ := HRa.out; exact ⟨cs, by rw [hw]; exact blk_far (blk_alloc p1 _) (by have := HW5.out; simp; omega) _, p2⟩⟩; have HOb := Aside0.mk (show Kd.R k25 25 wb w.heap.size (fun k_ => w5.heap.size + 2 ≤ k_ ∧ k_ < wa.heap.size) v xs by rw [hw]; exact Kd.R_far (Kd.R_alloc (Kd.R_mono (Kd.R_bound HOa.out) (fun k_ hk => ⟨hk.1, hk.2.2.1⟩)) _) (fun k_ hk => by simp; omega) _); have HBb := Aside0.mk (show Below w.heap.size w wb by rw [hw]; exact below_set (below_alloc HBa.out _) (by have := HW4.out; have := HW5.out; omega)); have HSb := Aside0.mk hsz; have BCb := Aside0.mk (show wb.heap[wa.heap.size]? = some (.cells #[.int .i64 0, .int .i64 0, .int .i64 0] 25 (0, 0)) by rw [hw]; exact blk_far (blk_new _ _) (by have := HSr.out; have := HSa.out; simp; omega) _); have cc0 := (blk_cell BCb.out 0).trans rfl; have cf1 := blk_frozen BCb.out 1; have cc1 := (blk_cell BCb.out 1).trans rfl; clear hw hsz))
          obtain ⟨w6, hw6⟩ : ∃ w6, w6 = wb.setCell ⟨wa.heap.size, 1, none⟩ (.int .i64 aA) := ⟨_, rfl⟩
          have hA0 : w5.heap.size + 2 ≤ wa.heap.size := by have := HSr.out; have := HSa.out; omega
          have hA4 : w4.heap.size < wa.heap.size := by have := HW5.out; omega
          have hA5 : w.heap.size < wa.heap.size := by have := HW4.out; omega
          have BC6 := Aside0.mk (show w6.heap[wa.heap.size]? = some (.cells #[.int .i64 0, .int .i64 aA, .int .i64 0] 25 (0, 0)) by rw [hw6]; exact blk_put BCb.out 1 _ rfl)
          have BP6 := Aside0.mk (show w6.heap[w5.heap.size]? = some (.cells #[.int .i64 a0, v] 35 (0, 0)) by rw [hw6]; exact blk_far BPb.out (by simp; omega) _)
          have BZ6 := Aside0.mk (show w6.heap[w5.heap.size + 1]? = some (.cells #[.int .i64 z2] 3 (0, 0)) by rw [hw6]; exact blk_far BZb.out (by simp; omega) _)
          have BR6 := Aside0.mk (show w6.heap[w.heap.size]? = some (.cells #[.int .i64 0, .slice none 0 0] 35 (0, 0)) by rw [hw6]; exact blk_far BRb.out (by simp; omega) _)
          have HR6 : Aside0 (Rch w6 w4.heap.size) := ⟨by obtain ⟨cs, p1, p2⟩ := HRb.out; exact ⟨cs, by rw [hw6]; exact blk_far p1 (by simp; omega) _, p2⟩⟩
          have HO6 := Aside0.mk (show Kd.R k25 25 w6 w.heap.size (fun k_ => w5.heap.size + 2 ≤ k_ ∧ k_ < wa.heap.size) v xs by rw [hw6]; exact Kd.R_far HOb.out (fun k_ hk => by simp; omega) _)
          have HB6 := Aside0.mk (show Below w.heap.size w w6 by rw [hw6]; exact below_set HBb.out (by omega))
          have HS6 : Aside0 (w6.heap.size = wa.heap.size + 1) := ⟨by rw [hw6]; simpa using HSb.out⟩
          have HA0 := Aside0.mk hA0
          have c60 := (blk_cell BC6.out 0).trans rfl
          have c61 := (blk_cell BC6.out 1).trans rfl
          have c62 := (blk_cell BC6.out 2).trans rfl
          have c63 := (blk_cell BP6.out 1).trans rfl
          have HR6d : Rch w6.drew w4.heap.size := by obtain ⟨cs, p1, p2⟩ := HR6.out; exact ⟨cs, blk_drew p1, p2⟩
          rw [← hw6]
          clear hw6 BPb BZb BRb HRb HOb HBb BCb HSb cc0 cf1 cc1 BPa BZa BRa HRa HOa HBa hA0 hA4 hA5 HO5 BP BZ BR HRc HBr
          refine start_ (n := 11) (S := fun w' => w'.cell? ⟨wa.heap.size, 0, none⟩ = some (.int .i64 0) ∧ w'.cell? ⟨wa.heap.size, 1, none⟩ = some (.int .i64 aA) ∧ w'.cell? ⟨wa.heap.size, 2, none⟩ = some (.int .i64 0) ∧ w'.cell? ⟨w5.heap.size, 1, none⟩ = some v) (ds := [10]) #[false, false, false, false, false, false, false, false, false, false, false] (by kernel_rfl) rfl rfl ⟨(blk_cell (blk_drew BC6.out) 0).trans rfl, (blk_cell (blk_drew BC6.out) 1).trans rfl, (blk_cell (blk_drew BC6.out) 2).trans rfl, (blk_cell (blk_drew BP6.out) 1).trans rfl⟩ (fun hHeld => ?_)
          refine pure_ (i := 0) (N := some 79) (v := ?_) (a' := ?_) #[true, false, false, false, false, false, false, false, false, false, false] rfl rfl (by kernel_rfl) (fun _ _ _ h => h) (Or.inl ⟨by rfl, ?_⟩) ?_ ?_
          rotate_left
          · intro w'
            go_simp
            with_reducible rfl
          rotate_left
          · simp only [Act.put, List.setIfInBounds_toArray, List.set_cons_zero, List.set_cons_succ, i64_w, i32_w]
            rfl
          refine pure_ (i := 2) (N := some 81) (v := ?_) (a' := ?_) #[true, false, true, false, false, false, false, false, false, false, false] rfl rfl (by kernel_rfl) (fun _ _ _ h => h) (Or.inl ⟨by rfl, ?_⟩) ?_ ?_
          rotate_left
          · intro w'
            go_simp
            with_reducible rfl
          rotate_left
          · simp only [Act.put, List.setIfInBounds_toArray, List.set_cons_zero, List.set_cons_succ, i64_w, i32_w]
            rfl
          refine pure_ (i := 3) (N := some 82) (v := ?_) (a' := ?_) #[true, false, true, true, false, false, false, false, false, false, false] rfl rfl (by kernel_rfl) (fun _ _ _ h => h) (Or.inl ⟨by rfl, ?_⟩) ?_ ?_
          rotate_left
          · intro w'
            go_simp
            with_reducible rfl
          rotate_left
          · simp only [Act.put, List.setIfInBounds_toArray, List.set_cons_zero, List.set_cons_succ, i64_w, i32_w]
            rfl
          refine pure_ (i := 5) (N := some 84) (v := ?_) (a' := ?_) #[true, false, true, true, false, true, false, false, false, false, false] rfl rfl (by kernel_rfl) (fun _ _ _ h => h) (Or.inl ⟨by rfl, ?_⟩) ?_ ?_
          rotate_left
          · intro w'
            go_simp
            with_reducible rfl
          rotate_left
          · simp only [Act.put, List.setIfInBounds_toArray, List.set_cons_zero, List.set_cons_succ, i64_w, i32_w]
            rfl
          refine take_ (i := 1) (N := some 80) (v := ?_) (a' := ?_) #[true, true, true, true, false, true, false, false, false, false, false] rfl rfl (by kernel_rfl) (fun _ _ _ h => h) (Or.inl ⟨by rfl, ?_⟩) hHeld ?_ ?_
          rotate_left
          · rintro w' ⟨s0, s1, s2, s3⟩
            go_simp
            with_reducible rfl
          rotate_left
          · simp only [Act.put, List.setIfInBounds_toArray, List.set_cons_zero, List.set_cons_succ, i64_w, i32_w]
            rfl
          refine take_ (i := 4) (N := some 83) (v := ?_) (a' := ?_) #[true, true, true, true, true, true, false, false, false, false, false] rfl rfl (by kernel_rfl) (fun _ _ _ h => h) (Or.inl ⟨by rfl, ?_⟩) hHeld ?_ ?_
          rotate_left
          · rintro w' ⟨s0, s1, s2, s3⟩
            go_simp
            with_reducible rfl
          rotate_left
          · simp only [Act.put, List.setIfInBounds_toArray, List.set_cons_zero, List.set_cons_succ, i64_w, i32_w]
            rfl
          refine one_ (i := 6) (N := some 85) #[true, true, true, true, true, true, true, false, false, false, false] rfl rfl (by kernel_rfl) (by decide) (fun K hK => ?_)
          refine goes_ Try.func98 (by kernel_rfl) rfl #[.pointer (some ⟨w4.heap.size, 0, none⟩), .int .i64 a0, .agg #[.int .i64 0, .int .i64 aA, .int .i64 0], .int .i64 a1] (by rfl) rfl rfl (by simp only [List.map_toArray, List.map_cons, List.map_nil]; rfl) ?_
          with_reducible refine (asHas.calls w6.drew w4.heap.size a0 0 aA 0 a1 HR6d HOK.out (by have := HG.out; omega) (by have := HG.out; omega) (by have := HG.out; omega) (by have := HG.out; omega)).mono ?_
          rintro e w7 ⟨rfl, hb⟩
          refine ⟨_, rfl, ?_⟩
          have BC7 := Aside0.mk (blk_below (w := w6.drew) (blk_drew BC6.out) hb)
          have BP7 := Aside0.mk (blk_below (w := w6.drew) (blk_drew BP6.out) hb)
          have BZ7 := Aside0.mk (blk_below (w := w6.drew) (blk_drew BZ6.out) hb)
          have BR7 := Aside0.mk (blk_below (w := w6.drew) (blk_drew BR6.out) hb)
          have HR7 : Aside0 (Rch w7 w4.heap.size) := ⟨by obtain ⟨cs, p1, p2⟩ := HR6.out; exact ⟨cs, blk_below (w := w6.drew) (blk_drew p1) hb, p2⟩⟩
          have HO7 := Aside0.mk (Kd.R_below (w := w6.drew) (Kd.R_drew HO6.out) hb)
          have HB7 := Aside0.mk (below_step (below_drew1 HB6.out) hb)
          have HS7 : Aside0 (wa.heap.size + 1 ≤ w7.heap.size) := ⟨by have h1_ := hb.size; have h2_ := HS6.out; have h3_ : w6.drew.heap.size = w6.heap.size := rfl; omega⟩
          clear hb
          refine hK.out _ _ ⟨(blk_cell BC7.out 0).trans rfl, (blk_cell BC7.out 1).trans rfl, (blk_cell BC7.out 2).trans rfl, (blk_cell BP7.out 1).trans rfl⟩ (fun hHeld => ?_)
          clear hK K
          refine norm_ (a' := ?_) ?_ ?_
          rotate_left
          · show Act.put _ (some 85) _ = _
            simp only [Act.put, List.setIfInBounds_toArray, List.set_cons_zero, List.set_cons_succ, i64_w, i32_w]
            rfl
          refine one_ (i := 7) (N := some 86) #[true, true, true, true, true, true, true, true, false, false, false] rfl rfl (by kernel_rfl) (by decide) (fun K hK => ?_)
          refine value_ (w1 := ?_) (v := ?_) (by rfl) rfl ?_ ?_
          rotate_left 2
          · go_simp
            constructor
            · rfl
            · rfl
          refine hK.out _ _ ⟨(blk_cell (blk_alloc BC7.out _) 0).trans rfl, (blk_cell (blk_alloc BC7.out _) 1).trans rfl, (blk_cell (blk_alloc BC7.out _) 2).trans rfl, (blk_cell (blk_alloc BP7.out _) 1).trans rfl⟩ (fun hHeld => ?_)
          clear hK K
          refine norm_ (a' := ?_) ?_ ?_
          rotate_left
          · show Act.put _ (some 86) _ = _
            simp only [Act.put, List.setIfInBounds_toArray, List.set_cons_zero, List.set_cons_succ, i64_w, i32_w]
            rfl
          refine one_ (i := 8) (N := some 87) #[true, true, true, true, true, true, true, true, true, false, false] rfl rfl (by kernel_rfl) (by decide) (fun K hK => ?_)
          refine Kd.R_append_step k25 (w0 := w) (W := w7) w.heap.size (by rfl) (.tmp 80) (.tmp 86) 33 25 (.agg #[(.int .i64 0), (.int .i64 0), (.int .i64 0)]) 24 rfl Try.underlying33 info25 rfl (by decide) (by omega) v xs (⟨0, aA, asHasV a0 0 aA a1⟩ : S25) [.int .i64 0, .int .i64 aA, .int .i64 (asHasV a0 0 aA a1)] (fun k_ => w5.heap.size + 2 ≤ k_) (fun _ => False) rfl rfl ?aP (fun _ hk => hk.elim) ?aF (Kd.R_mono HO7.out (fun k_ hk => hk.1)) HB7.out (below_size HB7.out) (by have := HXl.out; omega) ?_
          (case aP => exact k25_mkM _ _ _ (⟨0, aA, asHasV a0 0 aA a1⟩ : S25))
          (case aF => exact (fun k_ hk => by have h1_ := HS7.out; have h2_ := HA0.out; show w5.heap.size + 2 ≤ k_; omega))
          intro v8 w8 ho hb hg hat
          rw [← Nys.out] at ho
          obtain ⟨A8, c8, rfl⟩ := Kd.R_slice ho
          have BC8 := Aside0.mk (blk_grown BC7.out hg (fun h_ => by have h2_ : w5.heap.size + 2 ≤ wa.heap.size ∧ wa.heap.size < wa.heap.size := HO7.out.1 _ h_.symm; omega))
          have BP8 := Aside0.mk (blk_grown BP7.out hg (fun h_ => by have h2_ : w5.heap.size + 2 ≤ w5.heap.size ∧ w5.heap.size < wa.heap.size := HO7.out.1 _ h_.symm; omega))
          have BZ8 := Aside0.mk (blk_grown BZ7.out hg (fun h_ => by have h2_ : w5.heap.size + 2 ≤ w5.heap.size + 1 ∧ w5.heap.size + 1 < wa.heap.size := HO7.out.1 _ h_.symm; omega))
          have BR8 := Aside0.mk (blk_grown BR7.out hg (fun h_ => by have h2_ : w5.heap.size + 2 ≤ w.heap.size ∧ w.heap.size < wa.heap.size := HO7.out.1 _ h_.symm; have := HW4.out; have := HW5.out; omega))
          have HR8 : Aside0 (Rch w8 w4.heap.size) := ⟨by obtain ⟨cs, p1, p2⟩ := HR7.out; exact ⟨cs, blk_grown p1 hg (fun h_ => by have h2_ : w5.heap.size + 2 ≤ w4.heap.size ∧ w4.heap.size < wa.heap.size := HO7.out.1 _ h_.symm; have := HW5.out; omega), p2⟩⟩
          have HS8 : Aside0 (wa.heap.size + 1 ≤ w8.heap.size) := ⟨Nat.le_trans HS7.out hg.size⟩
          have HB8 := Aside0.mk hb
          have HO8 := Aside0.mk ho
          clear ho hb hg hat
          refine hK.out _ _ ⟨(blk_cell BC8.out 0).trans rfl, (blk_cell BC8.out 1).trans rfl, (blk_cell BC8.out 2).trans rfl, (blk_cell BP8.out 1).trans rfl⟩ (fun hHeld => ?_)
          clear hK K
          refine norm_ (a' := ?_) ?_ ?_
          rotate_left
          · show Act.put _ (some 87) _ = _
            simp only [Act.put, List.setIfInBounds_toArray, List.set_cons_zero, List.set_cons_succ, i64_w, i32_w]
            rfl
          refine pure_ (i := 9) (N := some 88) (v := ?_) (a' := ?_) #[true, true, true, true, true, true, true, true, true, true, false] rfl rfl (by kernel_rfl) (fun _ _ _ h => h) (Or.inl ⟨by rfl, ?_⟩) ?_ ?_
          rotate_left
          · intro w'
            go_simp
            with_reducible rfl
          rotate_left
          · simp only [Act.put, List.setIfInBounds_toArray, List.set_cons_zero, List.set_cons_succ, i64_w, i32_w]
            rfl
          refine last_ (i := 10) (N := none) #[true, true, true, true, true, true, true, true, true, true, true] rfl rfl (by kernel_rfl) (by decide) (fun K hK => ?_)
          have c83 : w8.cell? ⟨w5.heap.size, 1, none⟩ = some v := (blk_cell BP8.out 1).trans rfl
          have cf8 : w8.frozen? ⟨w5.heap.size, 1, none⟩ = false := blk_frozen BP8.out 1
          refine skip_ (w1 := ?_) (by rfl) rfl ?_ ?_
          rotate_left
          · go_simp
            rfl
          refine hK.out _ _ ?_
          clear hK K
          refine done_ (by kernel_rfl) ?_
          all_goals go_wp2
          all_goals
            go_roundg k1
            case measure => omega
            case rel =>
              refine ⟨i + 1, z2, _, ys, rfl, ⟨by have h1_ := HI.out; have h2_ := HM2.out; have h_ : ys.length = xs.length + 1 := (by rw [Nys.out]; simp); omega⟩, HL2, ⟨?_⟩, ⟨blk_put BP8.out 1 _ rfl⟩, ⟨blk_far BZ8.out (by simp) _⟩, ⟨blk_far BR8.out (by have h1_ := HW4.out; have h2_ := HW5.out; simp; omega) _⟩, ⟨?_⟩, ⟨by have h1_ := HS8.out; have h2_ := HA0.out; simp; omega⟩, ⟨below_set HB8.out (by have h1_ := HW4.out; have h2_ := HW5.out; omega)⟩⟩
              · exact Kd.R_far HO8.out (fun k_ hk => by simp; omega) _
              · obtain ⟨cs, p1, p2⟩ := HR8.out
                exact ⟨cs, blk_far p1 (by have h2_ := HW5.out; simp; omega) _, p2⟩
        · have e0 := HAA.out
          simp only [mkA] at e0
          rw [if_neg (by decide), if_pos trivial] at e0
          have g1 := Int.tmod_nonneg 8 HM2.out.1
          have g2 := Int.tmod_lt_of_pos z2 (show (0 : Int) < 8 by decide)
          have wt : IntKind.i64.wrap (z2.tmod 8) = z2.tmod 8 := Hw.wrap_w (by omega) (by omega)
          have wt2 : IntKind.i64.wrap (z2.tmod 8 + 2) = aA := by rw [Hw.wrap_w (by omega) (by omega)]; exact e0
          clear g1 g2 e0
          go_wp2_with (first
            | (go_at_call 97; (with_reducible refine (mkNext.calls wr (w5.heap.size + 1) z BZ.out HI.out.2.2.1 HI.out.2.2.2).mono ?_); rintro e wa ⟨he, hw⟩; rw [← HZ1.out] at he hw; subst he; have hsz : wa.heap.size = wr.heap.size := (by rw [hw]; simp); have BPa := Aside0.mk (show wa.heap[w5.heap.size]? = some (.cells #[.int .i64 a0, v] 35 (0, 0)) by rw [hw]; exact blk_far BP.out (by simp) _); have BZa := Aside0.mk (show wa.heap[w5.heap.size + 1]? = some (.cells #[.int .i64 z1] 3 (0, 0)) by rw [hw]; exact blk_put BZ.out 0 _ rfl); have BRa := Aside0.mk (show wa.heap[w.heap.size]? = some (.cells #[.int .i64 0, .slice none 0 0] 35 (0, 0)) by rw [hw]; exact blk_far BR.out (by have := HW4.out; have := HW5.out; simp; omega) _); have HRa : Aside0 (Rch wa w4.heap.size) := ⟨by obtain ⟨cs, p1, p2⟩ := HRc.out; exact ⟨cs, by rw [hw]; exact blk_far p1 (by have := HW5.out; simp; omega) _, p2⟩⟩; have HOa := Aside0.mk (show Kd.R k25 25 wa w.heap.size (fun k_ => w5.heap.size + 2 ≤ k_) v xs by rw [hw]; exact Kd.R_far HO5.out (fun k_ hk => by simp; omega) _); have HBa := Aside0.mk (show Below w.heap.size w wa by rw [hw]; exact below_set HBr.out (by have := HW4.out; have := HW5.out; omega)); have HSa := Aside0.mk hsz; clear hw hsz)
            | (go_at_call 97; (with_reducible refine (mkNext.calls (wa.alloc (.cells #[.int .i64 1, .int .i64 0, .int .i64 0] 25 (0, 0))) (w5.heap.size + 1) z1 (blk_alloc BZa.out _) HM1.out.1 HM1.out.2).mono ?_); rintro e wb ⟨he, hw⟩; rw [← HZ2.out] at he hw; subst he; have hsz : wb.heap.size = wa.heap.size + 1 := (by rw [hw]; simp); have BPb := Aside0.mk (show wb.heap[w5.heap.size]? = some (.cells #[.int .i64 a0, v] 35 (0, 0)) by rw [hw]; exact blk_far (blk_alloc BPa.out _) (by simp) _); have BZb := Aside0.mk (show wb.heap[w5.heap.size + 1]? = some (.cells #[.int .i64 z2] 3 (0, 0)) by rw [hw]; exact blk_put (blk_alloc BZa.out _) 0 _ rfl); have BRb := Aside0.mk (show wb.heap[w.heap.size]? = some (.cells #[.int .i64 0, .slice none 0 0] 35 (0, 0)) by rw [hw]; exact blk_far (blk_alloc BRa.out _) (by have := HW4.out; have := HW5.out; simp; omega) _); have HRb : Aside0 (Rch wb w4.heap.size) := ⟨by obtain ⟨cs, p1, p2⟩ := HRa.out; exact ⟨cs, by rw [hw]; exact blk_far (blk_alloc p1 _) (by have := HW5.out; simp; omega) _, p2⟩⟩; have HOb := Aside0.mk (show Kd.R k25 25 wb w.heap.size (fun k_ => w5.heap.size + 2 ≤ k_ ∧ k_ < wa.heap.size) v xs by rw [hw]; exact Kd.R_far (Kd.R_alloc (Kd.R_mono (Kd.R_bound HOa.out) (fun k_ hk => ⟨hk.1, hk.2.2.1⟩)) _) (fun k_ hk => by simp; omega) _); have HBb := Aside0.mk (show Below w.heap.size w wb by rw [hw]; exact below_set (below_alloc HBa.out _) (by have := HW4.out; have := HW5.out; omega)); have HSb := Aside0.mk hsz; have BCb := Aside0.mk (show wb.heap[wa.heap.size]? = some (.cells #[.int .i64 1, .int .i64 0, .int .i64 0] 25 (0, 0)) by rw [hw]; exact blk_far (blk_new _ _) (by have := HSr.out; have := HSa.out; simp; omega) _); have cc0 := (blk_cell BCb.out 0).trans rfl; have cf1 := blk_frozen BCb.out 1; have cc1 := (blk_cell BCb.out 1).trans rfl; clear hw hsz))
          obtain ⟨w6, hw6⟩ : ∃ w6, w6 = wb.setCell ⟨wa.heap.size, 1, none⟩ (.int .i64 aA) := ⟨_, rfl⟩
          have hA0 : w5.heap.size + 2 ≤ wa.heap.size := by have := HSr.out; have := HSa.out; omega
          have hA4 : w4.heap.size < wa.heap.size := by have := HW5.out; omega
          have hA5 : w.heap.size < wa.heap.size := by have := HW4.out; omega
          have BC6 := Aside0.mk (show w6.heap[wa.heap.size]? = some (.cells #[.int .i64 1, .int .i64 aA, .int .i64 0] 25 (0, 0)) by rw [hw6]; exact blk_put BCb.out 1 _ rfl)
          have BP6 := Aside0.mk (show w6.heap[w5.heap.size]? = some (.cells #[.int .i64 a0, v] 35 (0, 0)) by rw [hw6]; exact blk_far BPb.out (by simp; omega) _)
          have BZ6 := Aside0.mk (show w6.heap[w5.heap.size + 1]? = some (.cells #[.int .i64 z2] 3 (0, 0)) by rw [hw6]; exact blk_far BZb.out (by simp; omega) _)
          have BR6 := Aside0.mk (show w6.heap[w.heap.size]? = some (.cells #[.int .i64 0, .slice none 0 0] 35 (0, 0)) by rw [hw6]; exact blk_far BRb.out (by simp; omega) _)
          have HR6 : Aside0 (Rch w6 w4.heap.size) := ⟨by obtain ⟨cs, p1, p2⟩ := HRb.out; exact ⟨cs, by rw [hw6]; exact blk_far p1 (by simp; omega) _, p2⟩⟩
          have HO6 := Aside0.mk (show Kd.R k25 25 w6 w.heap.size (fun k_ => w5.heap.size + 2 ≤ k_ ∧ k_ < wa.heap.size) v xs by rw [hw6]; exact Kd.R_far HOb.out (fun k_ hk => by simp; omega) _)
          have HB6 := Aside0.mk (show Below w.heap.size w w6 by rw [hw6]; exact below_set HBb.out (by omega))
          have HS6 : Aside0 (w6.heap.size = wa.heap.size + 1) := ⟨by rw [hw6]; simpa using HSb.out⟩
          have HA0 := Aside0.mk hA0
          have c60 := (blk_cell BC6.out 0).trans rfl
          have c61 := (blk_cell BC6.out 1).trans rfl
          have c62 := (blk_cell BC6.out 2).trans rfl
          have c63 := (blk_cell BP6.out 1).trans rfl
          have HR6d : Rch w6.drew w4.heap.size := by obtain ⟨cs, p1, p2⟩ := HR6.out; exact ⟨cs, blk_drew p1, p2⟩
          rw [← hw6]
          clear hw6 BPb BZb BRb HRb HOb HBb BCb HSb cc0 cf1 cc1 BPa BZa BRa HRa HOa HBa hA0 hA4 hA5 HO5 BP BZ BR HRc HBr
          refine start_ (n := 11) (S := fun w' => w'.cell? ⟨wa.heap.size, 0, none⟩ = some (.int .i64 1) ∧ w'.cell? ⟨wa.heap.size, 1, none⟩ = some (.int .i64 aA) ∧ w'.cell? ⟨wa.heap.size, 2, none⟩ = some (.int .i64 0) ∧ w'.cell? ⟨w5.heap.size, 1, none⟩ = some v) (ds := [10]) #[false, false, false, false, false, false, false, false, false, false, false] (by kernel_rfl) rfl rfl ⟨(blk_cell (blk_drew BC6.out) 0).trans rfl, (blk_cell (blk_drew BC6.out) 1).trans rfl, (blk_cell (blk_drew BC6.out) 2).trans rfl, (blk_cell (blk_drew BP6.out) 1).trans rfl⟩ (fun hHeld => ?_)
          refine pure_ (i := 0) (N := some 79) (v := ?_) (a' := ?_) #[true, false, false, false, false, false, false, false, false, false, false] rfl rfl (by kernel_rfl) (fun _ _ _ h => h) (Or.inl ⟨by rfl, ?_⟩) ?_ ?_
          rotate_left
          · intro w'
            go_simp
            with_reducible rfl
          rotate_left
          · simp only [Act.put, List.setIfInBounds_toArray, List.set_cons_zero, List.set_cons_succ, i64_w, i32_w]
            rfl
          refine pure_ (i := 2) (N := some 81) (v := ?_) (a' := ?_) #[true, false, true, false, false, false, false, false, false, false, false] rfl rfl (by kernel_rfl) (fun _ _ _ h => h) (Or.inl ⟨by rfl, ?_⟩) ?_ ?_
          rotate_left
          · intro w'
            go_simp
            with_reducible rfl
          rotate_left
          · simp only [Act.put, List.setIfInBounds_toArray, List.set_cons_zero, List.set_cons_succ, i64_w, i32_w]
            rfl
          refine pure_ (i := 3) (N := some 82) (v := ?_) (a' := ?_) #[true, false, true, true, false, false, false, false, false, false, false] rfl rfl (by kernel_rfl) (fun _ _ _ h => h) (Or.inl ⟨by rfl, ?_⟩) ?_ ?_
          rotate_left
          · intro w'
            go_simp
            with_reducible rfl
          rotate_left
          · simp only [Act.put, List.setIfInBounds_toArray, List.set_cons_zero, List.set_cons_succ, i64_w, i32_w]
            rfl
          refine pure_ (i := 5) (N := some 84) (v := ?_) (a' := ?_) #[true, false, true, true, false, true, false, false, false, false, false] rfl rfl (by kernel_rfl) (fun _ _ _ h => h) (Or.inl ⟨by rfl, ?_⟩) ?_ ?_
          rotate_left
          · intro w'
            go_simp
            with_reducible rfl
          rotate_left
          · simp only [Act.put, List.setIfInBounds_toArray, List.set_cons_zero, List.set_cons_succ, i64_w, i32_w]
            rfl
          refine take_ (i := 1) (N := some 80) (v := ?_) (a' := ?_) #[true, true, true, true, false, true, false, false, false, false, false] rfl rfl (by kernel_rfl) (fun _ _ _ h => h) (Or.inl ⟨by rfl, ?_⟩) hHeld ?_ ?_
          rotate_left
          · rintro w' ⟨s0, s1, s2, s3⟩
            go_simp
            with_reducible rfl
          rotate_left
          · simp only [Act.put, List.setIfInBounds_toArray, List.set_cons_zero, List.set_cons_succ, i64_w, i32_w]
            rfl
          refine take_ (i := 4) (N := some 83) (v := ?_) (a' := ?_) #[true, true, true, true, true, true, false, false, false, false, false] rfl rfl (by kernel_rfl) (fun _ _ _ h => h) (Or.inl ⟨by rfl, ?_⟩) hHeld ?_ ?_
          rotate_left
          · rintro w' ⟨s0, s1, s2, s3⟩
            go_simp
            with_reducible rfl
          rotate_left
          · simp only [Act.put, List.setIfInBounds_toArray, List.set_cons_zero, List.set_cons_succ, i64_w, i32_w]
            rfl
          refine one_ (i := 6) (N := some 85) #[true, true, true, true, true, true, true, false, false, false, false] rfl rfl (by kernel_rfl) (by decide) (fun K hK => ?_)
          refine goes_ Try.func98 (by kernel_rfl) rfl #[.pointer (some ⟨w4.heap.size, 0, none⟩), .int .i64 a0, .agg #[.int .i64 1, .int .i64 aA, .int .i64 0], .int .i64 a1] (by rfl) rfl rfl (by simp only [List.map_toArray, List.map_cons, List.map_nil]; rfl) ?_
          with_reducible refine (asHas.calls w6.drew w4.heap.size a0 1 aA 0 a1 HR6d HOK.out (by have := HG.out; omega) (by have := HG.out; omega) (by have := HG.out; omega) (by have := HG.out; omega)).mono ?_
          rintro e w7 ⟨rfl, hb⟩
          refine ⟨_, rfl, ?_⟩
          have BC7 := Aside0.mk (blk_below (w := w6.drew) (blk_drew BC6.out) hb)
          have BP7 := Aside0.mk (blk_below (w := w6.drew) (blk_drew BP6.out) hb)
          have BZ7 := Aside0.mk (blk_below (w := w6.drew) (blk_drew BZ6.out) hb)
          have BR7 := Aside0.mk (blk_below (w := w6.drew) (blk_drew BR6.out) hb)
          have HR7 : Aside0 (Rch w7 w4.heap.size) := ⟨by obtain ⟨cs, p1, p2⟩ := HR6.out; exact ⟨cs, blk_below (w := w6.drew) (blk_drew p1) hb, p2⟩⟩
          have HO7 := Aside0.mk (Kd.R_below (w := w6.drew) (Kd.R_drew HO6.out) hb)
          have HB7 := Aside0.mk (below_step (below_drew1 HB6.out) hb)
          have HS7 : Aside0 (wa.heap.size + 1 ≤ w7.heap.size) := ⟨by have h1_ := hb.size; have h2_ := HS6.out; have h3_ : w6.drew.heap.size = w6.heap.size := rfl; omega⟩
          clear hb
          refine hK.out _ _ ⟨(blk_cell BC7.out 0).trans rfl, (blk_cell BC7.out 1).trans rfl, (blk_cell BC7.out 2).trans rfl, (blk_cell BP7.out 1).trans rfl⟩ (fun hHeld => ?_)
          clear hK K
          refine norm_ (a' := ?_) ?_ ?_
          rotate_left
          · show Act.put _ (some 85) _ = _
            simp only [Act.put, List.setIfInBounds_toArray, List.set_cons_zero, List.set_cons_succ, i64_w, i32_w]
            rfl
          refine one_ (i := 7) (N := some 86) #[true, true, true, true, true, true, true, true, false, false, false] rfl rfl (by kernel_rfl) (by decide) (fun K hK => ?_)
          refine value_ (w1 := ?_) (v := ?_) (by rfl) rfl ?_ ?_
          rotate_left 2
          · go_simp
            constructor
            · rfl
            · rfl
          refine hK.out _ _ ⟨(blk_cell (blk_alloc BC7.out _) 0).trans rfl, (blk_cell (blk_alloc BC7.out _) 1).trans rfl, (blk_cell (blk_alloc BC7.out _) 2).trans rfl, (blk_cell (blk_alloc BP7.out _) 1).trans rfl⟩ (fun hHeld => ?_)
          clear hK K
          refine norm_ (a' := ?_) ?_ ?_
          rotate_left
          · show Act.put _ (some 86) _ = _
            simp only [Act.put, List.setIfInBounds_toArray, List.set_cons_zero, List.set_cons_succ, i64_w, i32_w]
            rfl
          refine one_ (i := 8) (N := some 87) #[true, true, true, true, true, true, true, true, true, false, false] rfl rfl (by kernel_rfl) (by decide) (fun K hK => ?_)
          refine Kd.R_append_step k25 (w0 := w) (W := w7) w.heap.size (by rfl) (.tmp 80) (.tmp 86) 33 25 (.agg #[(.int .i64 0), (.int .i64 0), (.int .i64 0)]) 24 rfl Try.underlying33 info25 rfl (by decide) (by omega) v xs (⟨1, aA, asHasV a0 1 aA a1⟩ : S25) [.int .i64 1, .int .i64 aA, .int .i64 (asHasV a0 1 aA a1)] (fun k_ => w5.heap.size + 2 ≤ k_) (fun _ => False) rfl rfl ?aP (fun _ hk => hk.elim) ?aF (Kd.R_mono HO7.out (fun k_ hk => hk.1)) HB7.out (below_size HB7.out) (by have := HXl.out; omega) ?_
          (case aP => exact k25_mkM _ _ _ (⟨1, aA, asHasV a0 1 aA a1⟩ : S25))
          (case aF => exact (fun k_ hk => by have h1_ := HS7.out; have h2_ := HA0.out; show w5.heap.size + 2 ≤ k_; omega))
          intro v8 w8 ho hb hg hat
          rw [← Nys.out] at ho
          obtain ⟨A8, c8, rfl⟩ := Kd.R_slice ho
          have BC8 := Aside0.mk (blk_grown BC7.out hg (fun h_ => by have h2_ : w5.heap.size + 2 ≤ wa.heap.size ∧ wa.heap.size < wa.heap.size := HO7.out.1 _ h_.symm; omega))
          have BP8 := Aside0.mk (blk_grown BP7.out hg (fun h_ => by have h2_ : w5.heap.size + 2 ≤ w5.heap.size ∧ w5.heap.size < wa.heap.size := HO7.out.1 _ h_.symm; omega))
          have BZ8 := Aside0.mk (blk_grown BZ7.out hg (fun h_ => by have h2_ : w5.heap.size + 2 ≤ w5.heap.size + 1 ∧ w5.heap.size + 1 < wa.heap.size := HO7.out.1 _ h_.symm; omega))
          have BR8 := Aside0.mk (blk_grown BR7.out hg (fun h_ => by have h2_ : w5.heap.size + 2 ≤ w.heap.size ∧ w.heap.size < wa.heap.size := HO7.out.1 _ h_.symm; have := HW4.out; have := HW5.out; omega))
          have HR8 : Aside0 (Rch w8 w4.heap.size) := ⟨by obtain ⟨cs, p1, p2⟩ := HR7.out; exact ⟨cs, blk_grown p1 hg (fun h_ => by have h2_ : w5.heap.size + 2 ≤ w4.heap.size ∧ w4.heap.size < wa.heap.size := HO7.out.1 _ h_.symm; have := HW5.out; omega), p2⟩⟩
          have HS8 : Aside0 (wa.heap.size + 1 ≤ w8.heap.size) := ⟨Nat.le_trans HS7.out hg.size⟩
          have HB8 := Aside0.mk hb
          have HO8 := Aside0.mk ho
          clear ho hb hg hat
          refine hK.out _ _ ⟨(blk_cell BC8.out 0).trans rfl, (blk_cell BC8.out 1).trans rfl, (blk_cell BC8.out 2).trans rfl, (blk_cell BP8.out 1).trans rfl⟩ (fun hHeld => ?_)
          clear hK K
          refine norm_ (a' := ?_) ?_ ?_
          rotate_left
          · show Act.put _ (some 87) _ = _
            simp only [Act.put, List.setIfInBounds_toArray, List.set_cons_zero, List.set_cons_succ, i64_w, i32_w]
            rfl
          refine pure_ (i := 9) (N := some 88) (v := ?_) (a' := ?_) #[true, true, true, true, true, true, true, true, true, true, false] rfl rfl (by kernel_rfl) (fun _ _ _ h => h) (Or.inl ⟨by rfl, ?_⟩) ?_ ?_
          rotate_left
          · intro w'
            go_simp
            with_reducible rfl
          rotate_left
          · simp only [Act.put, List.setIfInBounds_toArray, List.set_cons_zero, List.set_cons_succ, i64_w, i32_w]
            rfl
          refine last_ (i := 10) (N := none) #[true, true, true, true, true, true, true, true, true, true, true] rfl rfl (by kernel_rfl) (by decide) (fun K hK => ?_)
          have c83 : w8.cell? ⟨w5.heap.size, 1, none⟩ = some v := (blk_cell BP8.out 1).trans rfl
          have cf8 : w8.frozen? ⟨w5.heap.size, 1, none⟩ = false := blk_frozen BP8.out 1
          refine skip_ (w1 := ?_) (by rfl) rfl ?_ ?_
          rotate_left
          · go_simp
            rfl
          refine hK.out _ _ ?_
          clear hK K
          refine done_ (by kernel_rfl) ?_
          all_goals go_wp2
          all_goals
            go_roundg k1
            case measure => omega
            case rel =>
              refine ⟨i + 1, z2, _, ys, rfl, ⟨by have h1_ := HI.out; have h2_ := HM2.out; have h_ : ys.length = xs.length + 1 := (by rw [Nys.out]; simp); omega⟩, HL2, ⟨?_⟩, ⟨blk_put BP8.out 1 _ rfl⟩, ⟨blk_far BZ8.out (by simp) _⟩, ⟨blk_far BR8.out (by have h1_ := HW4.out; have h2_ := HW5.out; simp; omega) _⟩, ⟨?_⟩, ⟨by have h1_ := HS8.out; have h2_ := HA0.out; simp; omega⟩, ⟨below_set HB8.out (by have h1_ := HW4.out; have h2_ := HW5.out; omega)⟩⟩
              · exact Kd.R_far HO8.out (fun k_ hk => by simp; omega) _
              · obtain ⟨cs, p1, p2⟩ := HR8.out
                exact ⟨cs, blk_far p1 (by have h2_ := HW5.out; simp; omega) _, p2⟩
        · have e0 := HAA.out
          simp only [mkA] at e0
          rw [if_neg (by decide), if_neg (by decide), if_pos trivial] at e0
          have g1 := Int.tmod_nonneg 3 HM2.out.1
          have g2 := Int.tmod_lt_of_pos z2 (show (0 : Int) < 3 by decide)
          have wt : IntKind.i64.wrap (z2.tmod 3) = z2.tmod 3 := Hw.wrap_w (by omega) (by omega)
          have wt2 : IntKind.i64.wrap (z2.tmod 3 + 1) = aA := by rw [Hw.wrap_w (by omega) (by omega)]; exact e0
          clear g1 g2 e0
          go_wp2_with (first
            | (go_at_call 97; (with_reducible refine (mkNext.calls wr (w5.heap.size + 1) z BZ.out HI.out.2.2.1 HI.out.2.2.2).mono ?_); rintro e wa ⟨he, hw⟩; rw [← HZ1.out] at he hw; subst he; have hsz : wa.heap.size = wr.heap.size := (by rw [hw]; simp); have BPa := Aside0.mk (show wa.heap[w5.heap.size]? = some (.cells #[.int .i64 a0, v] 35 (0, 0)) by rw [hw]; exact blk_far BP.out (by simp) _); have BZa := Aside0.mk (show wa.heap[w5.heap.size + 1]? = some (.cells #[.int .i64 z1] 3 (0, 0)) by rw [hw]; exact blk_put BZ.out 0 _ rfl); have BRa := Aside0.mk (show wa.heap[w.heap.size]? = some (.cells #[.int .i64 0, .slice none 0 0] 35 (0, 0)) by rw [hw]; exact blk_far BR.out (by have := HW4.out; have := HW5.out; simp; omega) _); have HRa : Aside0 (Rch wa w4.heap.size) := ⟨by obtain ⟨cs, p1, p2⟩ := HRc.out; exact ⟨cs, by rw [hw]; exact blk_far p1 (by have := HW5.out; simp; omega) _, p2⟩⟩; have HOa := Aside0.mk (show Kd.R k25 25 wa w.heap.size (fun k_ => w5.heap.size + 2 ≤ k_) v xs by rw [hw]; exact Kd.R_far HO5.out (fun k_ hk => by simp; omega) _); have HBa := Aside0.mk (show Below w.heap.size w wa by rw [hw]; exact below_set HBr.out (by have := HW4.out; have := HW5.out; omega)); have HSa := Aside0.mk hsz; clear hw hsz)
            | (go_at_call 97; (with_reducible refine (mkNext.calls (wa.alloc (.cells #[.int .i64 2, .int .i64 0, .int .i64 0] 25 (0, 0))) (w5.heap.size + 1) z1 (blk_alloc BZa.out _) HM1.out.1 HM1.out.2).mono ?_); rintro e wb ⟨he, hw⟩; rw [← HZ2.out] at he hw; subst he; have hsz : wb.heap.size = wa.heap.size + 1 := (by rw [hw]; simp); have BPb := Aside0.mk (show wb.heap[w5.heap.size]? = some (.cells #[.int .i64 a0, v] 35 (0, 0)) by rw [hw]; exact blk_far (blk_alloc BPa.out _) (by simp) _); have BZb := Aside0.mk (show wb.heap[w5.heap.size + 1]? = some (.cells #[.int .i64 z2] 3 (0, 0)) by rw [hw]; exact blk_put (blk_alloc BZa.out _) 0 _ rfl); have BRb := Aside0.mk (show wb.heap[w.heap.size]? = some (.cells #[.int .i64 0, .slice none 0 0] 35 (0, 0)) by rw [hw]; exact blk_far (blk_alloc BRa.out _) (by have := HW4.out; have := HW5.out; simp; omega) _); have HRb : Aside0 (Rch wb w4.heap.size) := ⟨by obtain ⟨cs, p1, p2⟩ := HRa.out; exact ⟨cs, by rw [hw]; exact blk_far (blk_alloc p1 _) (by have := HW5.out; simp; omega) _, p2⟩⟩; have HOb := Aside0.mk (show Kd.R k25 25 wb w.heap.size (fun k_ => w5.heap.size + 2 ≤ k_ ∧ k_ < wa.heap.size) v xs by rw [hw]; exact Kd.R_far (Kd.R_alloc (Kd.R_mono (Kd.R_bound HOa.out) (fun k_ hk => ⟨hk.1, hk.2.2.1⟩)) _) (fun k_ hk => by simp; omega) _); have HBb := Aside0.mk (show Below w.heap.size w wb by rw [hw]; exact below_set (below_alloc HBa.out _) (by have := HW4.out; have := HW5.out; omega)); have HSb := Aside0.mk hsz; have BCb := Aside0.mk (show wb.heap[wa.heap.size]? = some (.cells #[.int .i64 2, .int .i64 0, .int .i64 0] 25 (0, 0)) by rw [hw]; exact blk_far (blk_new _ _) (by have := HSr.out; have := HSa.out; simp; omega) _); have cc0 := (blk_cell BCb.out 0).trans rfl; have cf1 := blk_frozen BCb.out 1; have cc1 := (blk_cell BCb.out 1).trans rfl; clear hw hsz))
          obtain ⟨w6, hw6⟩ : ∃ w6, w6 = wb.setCell ⟨wa.heap.size, 1, none⟩ (.int .i64 aA) := ⟨_, rfl⟩
          have hA0 : w5.heap.size + 2 ≤ wa.heap.size := by have := HSr.out; have := HSa.out; omega
          have hA4 : w4.heap.size < wa.heap.size := by have := HW5.out; omega
          have hA5 : w.heap.size < wa.heap.size := by have := HW4.out; omega
          have BC6 := Aside0.mk (show w6.heap[wa.heap.size]? = some (.cells #[.int .i64 2, .int .i64 aA, .int .i64 0] 25 (0, 0)) by rw [hw6]; exact blk_put BCb.out 1 _ rfl)
          have BP6 := Aside0.mk (show w6.heap[w5.heap.size]? = some (.cells #[.int .i64 a0, v] 35 (0, 0)) by rw [hw6]; exact blk_far BPb.out (by simp; omega) _)
          have BZ6 := Aside0.mk (show w6.heap[w5.heap.size + 1]? = some (.cells #[.int .i64 z2] 3 (0, 0)) by rw [hw6]; exact blk_far BZb.out (by simp; omega) _)
          have BR6 := Aside0.mk (show w6.heap[w.heap.size]? = some (.cells #[.int .i64 0, .slice none 0 0] 35 (0, 0)) by rw [hw6]; exact blk_far BRb.out (by simp; omega) _)
          have HR6 : Aside0 (Rch w6 w4.heap.size) := ⟨by obtain ⟨cs, p1, p2⟩ := HRb.out; exact ⟨cs, by rw [hw6]; exact blk_far p1 (by simp; omega) _, p2⟩⟩
          have HO6 := Aside0.mk (show Kd.R k25 25 w6 w.heap.size (fun k_ => w5.heap.size + 2 ≤ k_ ∧ k_ < wa.heap.size) v xs by rw [hw6]; exact Kd.R_far HOb.out (fun k_ hk => by simp; omega) _)
          have HB6 := Aside0.mk (show Below w.heap.size w w6 by rw [hw6]; exact below_set HBb.out (by omega))
          have HS6 : Aside0 (w6.heap.size = wa.heap.size + 1) := ⟨by rw [hw6]; simpa using HSb.out⟩
          have HA0 := Aside0.mk hA0
          have c60 := (blk_cell BC6.out 0).trans rfl
          have c61 := (blk_cell BC6.out 1).trans rfl
          have c62 := (blk_cell BC6.out 2).trans rfl
          have c63 := (blk_cell BP6.out 1).trans rfl
          have HR6d : Rch w6.drew w4.heap.size := by obtain ⟨cs, p1, p2⟩ := HR6.out; exact ⟨cs, blk_drew p1, p2⟩
          rw [← hw6]
          clear hw6 BPb BZb BRb HRb HOb HBb BCb HSb cc0 cf1 cc1 BPa BZa BRa HRa HOa HBa hA0 hA4 hA5 HO5 BP BZ BR HRc HBr
          refine start_ (n := 11) (S := fun w' => w'.cell? ⟨wa.heap.size, 0, none⟩ = some (.int .i64 2) ∧ w'.cell? ⟨wa.heap.size, 1, none⟩ = some (.int .i64 aA) ∧ w'.cell? ⟨wa.heap.size, 2, none⟩ = some (.int .i64 0) ∧ w'.cell? ⟨w5.heap.size, 1, none⟩ = some v) (ds := [10]) #[false, false, false, false, false, false, false, false, false, false, false] (by kernel_rfl) rfl rfl ⟨(blk_cell (blk_drew BC6.out) 0).trans rfl, (blk_cell (blk_drew BC6.out) 1).trans rfl, (blk_cell (blk_drew BC6.out) 2).trans rfl, (blk_cell (blk_drew BP6.out) 1).trans rfl⟩ (fun hHeld => ?_)
          refine pure_ (i := 0) (N := some 79) (v := ?_) (a' := ?_) #[true, false, false, false, false, false, false, false, false, false, false] rfl rfl (by kernel_rfl) (fun _ _ _ h => h) (Or.inl ⟨by rfl, ?_⟩) ?_ ?_
          rotate_left
          · intro w'
            go_simp
            with_reducible rfl
          rotate_left
          · simp only [Act.put, List.setIfInBounds_toArray, List.set_cons_zero, List.set_cons_succ, i64_w, i32_w]
            rfl
          refine pure_ (i := 2) (N := some 81) (v := ?_) (a' := ?_) #[true, false, true, false, false, false, false, false, false, false, false] rfl rfl (by kernel_rfl) (fun _ _ _ h => h) (Or.inl ⟨by rfl, ?_⟩) ?_ ?_
          rotate_left
          · intro w'
            go_simp
            with_reducible rfl
          rotate_left
          · simp only [Act.put, List.setIfInBounds_toArray, List.set_cons_zero, List.set_cons_succ, i64_w, i32_w]
            rfl
          refine pure_ (i := 3) (N := some 82) (v := ?_) (a' := ?_) #[true, false, true, true, false, false, false, false, false, false, false] rfl rfl (by kernel_rfl) (fun _ _ _ h => h) (Or.inl ⟨by rfl, ?_⟩) ?_ ?_
          rotate_left
          · intro w'
            go_simp
            with_reducible rfl
          rotate_left
          · simp only [Act.put, List.setIfInBounds_toArray, List.set_cons_zero, List.set_cons_succ, i64_w, i32_w]
            rfl
          refine pure_ (i := 5) (N := some 84) (v := ?_) (a' := ?_) #[true, false, true, true, false, true, false, false, false, false, false] rfl rfl (by kernel_rfl) (fun _ _ _ h => h) (Or.inl ⟨by rfl, ?_⟩) ?_ ?_
          rotate_left
          · intro w'
            go_simp
            with_reducible rfl
          rotate_left
          · simp only [Act.put, List.setIfInBounds_toArray, List.set_cons_zero, List.set_cons_succ, i64_w, i32_w]
            rfl
          refine take_ (i := 1) (N := some 80) (v := ?_) (a' := ?_) #[true, true, true, true, false, true, false, false, false, false, false] rfl rfl (by kernel_rfl) (fun _ _ _ h => h) (Or.inl ⟨by rfl, ?_⟩) hHeld ?_ ?_
          rotate_left
          · rintro w' ⟨s0, s1, s2, s3⟩
            go_simp
            with_reducible rfl
          rotate_left
          · simp only [Act.put, List.setIfInBounds_toArray, List.set_cons_zero, List.set_cons_succ, i64_w, i32_w]
            rfl
          refine take_ (i := 4) (N := some 83) (v := ?_) (a' := ?_) #[true, true, true, true, true, true, false, false, false, false, false] rfl rfl (by kernel_rfl) (fun _ _ _ h => h) (Or.inl ⟨by rfl, ?_⟩) hHeld ?_ ?_
          rotate_left
          · rintro w' ⟨s0, s1, s2, s3⟩
            go_simp
            with_reducible rfl
          rotate_left
          · simp only [Act.put, List.setIfInBounds_toArray, List.set_cons_zero, List.set_cons_succ, i64_w, i32_w]
            rfl
          refine one_ (i := 6) (N := some 85) #[true, true, true, true, true, true, true, false, false, false, false] rfl rfl (by kernel_rfl) (by decide) (fun K hK => ?_)
          refine goes_ Try.func98 (by kernel_rfl) rfl #[.pointer (some ⟨w4.heap.size, 0, none⟩), .int .i64 a0, .agg #[.int .i64 2, .int .i64 aA, .int .i64 0], .int .i64 a1] (by rfl) rfl rfl (by simp only [List.map_toArray, List.map_cons, List.map_nil]; rfl) ?_
          with_reducible refine (asHas.calls w6.drew w4.heap.size a0 2 aA 0 a1 HR6d HOK.out (by have := HG.out; omega) (by have := HG.out; omega) (by have := HG.out; omega) (by have := HG.out; omega)).mono ?_
          rintro e w7 ⟨rfl, hb⟩
          refine ⟨_, rfl, ?_⟩
          have BC7 := Aside0.mk (blk_below (w := w6.drew) (blk_drew BC6.out) hb)
          have BP7 := Aside0.mk (blk_below (w := w6.drew) (blk_drew BP6.out) hb)
          have BZ7 := Aside0.mk (blk_below (w := w6.drew) (blk_drew BZ6.out) hb)
          have BR7 := Aside0.mk (blk_below (w := w6.drew) (blk_drew BR6.out) hb)
          have HR7 : Aside0 (Rch w7 w4.heap.size) := ⟨by obtain ⟨cs, p1, p2⟩ := HR6.out; exact ⟨cs, blk_below (w := w6.drew) (blk_drew p1) hb, p2⟩⟩
          have HO7 := Aside0.mk (Kd.R_below (w := w6.drew) (Kd.R_drew HO6.out) hb)
          have HB7 := Aside0.mk (below_step (below_drew1 HB6.out) hb)
          have HS7 : Aside0 (wa.heap.size + 1 ≤ w7.heap.size) := ⟨by have h1_ := hb.size; have h2_ := HS6.out; have h3_ : w6.drew.heap.size = w6.heap.size := rfl; omega⟩
          clear hb
          refine hK.out _ _ ⟨(blk_cell BC7.out 0).trans rfl, (blk_cell BC7.out 1).trans rfl, (blk_cell BC7.out 2).trans rfl, (blk_cell BP7.out 1).trans rfl⟩ (fun hHeld => ?_)
          clear hK K
          refine norm_ (a' := ?_) ?_ ?_
          rotate_left
          · show Act.put _ (some 85) _ = _
            simp only [Act.put, List.setIfInBounds_toArray, List.set_cons_zero, List.set_cons_succ, i64_w, i32_w]
            rfl
          refine one_ (i := 7) (N := some 86) #[true, true, true, true, true, true, true, true, false, false, false] rfl rfl (by kernel_rfl) (by decide) (fun K hK => ?_)
          refine value_ (w1 := ?_) (v := ?_) (by rfl) rfl ?_ ?_
          rotate_left 2
          · go_simp
            constructor
            · rfl
            · rfl
          refine hK.out _ _ ⟨(blk_cell (blk_alloc BC7.out _) 0).trans rfl, (blk_cell (blk_alloc BC7.out _) 1).trans rfl, (blk_cell (blk_alloc BC7.out _) 2).trans rfl, (blk_cell (blk_alloc BP7.out _) 1).trans rfl⟩ (fun hHeld => ?_)
          clear hK K
          refine norm_ (a' := ?_) ?_ ?_
          rotate_left
          · show Act.put _ (some 86) _ = _
            simp only [Act.put, List.setIfInBounds_toArray, List.set_cons_zero, List.set_cons_succ, i64_w, i32_w]
            rfl
          refine one_ (i := 8) (N := some 87) #[true, true, true, true, true, true, true, true, true, false, false] rfl rfl (by kernel_rfl) (by decide) (fun K hK => ?_)
          refine Kd.R_append_step k25 (w0 := w) (W := w7) w.heap.size (by rfl) (.tmp 80) (.tmp 86) 33 25 (.agg #[(.int .i64 0), (.int .i64 0), (.int .i64 0)]) 24 rfl Try.underlying33 info25 rfl (by decide) (by omega) v xs (⟨2, aA, asHasV a0 2 aA a1⟩ : S25) [.int .i64 2, .int .i64 aA, .int .i64 (asHasV a0 2 aA a1)] (fun k_ => w5.heap.size + 2 ≤ k_) (fun _ => False) rfl rfl ?aP (fun _ hk => hk.elim) ?aF (Kd.R_mono HO7.out (fun k_ hk => hk.1)) HB7.out (below_size HB7.out) (by have := HXl.out; omega) ?_
          (case aP => exact k25_mkM _ _ _ (⟨2, aA, asHasV a0 2 aA a1⟩ : S25))
          (case aF => exact (fun k_ hk => by have h1_ := HS7.out; have h2_ := HA0.out; show w5.heap.size + 2 ≤ k_; omega))
          intro v8 w8 ho hb hg hat
          rw [← Nys.out] at ho
          obtain ⟨A8, c8, rfl⟩ := Kd.R_slice ho
          have BC8 := Aside0.mk (blk_grown BC7.out hg (fun h_ => by have h2_ : w5.heap.size + 2 ≤ wa.heap.size ∧ wa.heap.size < wa.heap.size := HO7.out.1 _ h_.symm; omega))
          have BP8 := Aside0.mk (blk_grown BP7.out hg (fun h_ => by have h2_ : w5.heap.size + 2 ≤ w5.heap.size ∧ w5.heap.size < wa.heap.size := HO7.out.1 _ h_.symm; omega))
          have BZ8 := Aside0.mk (blk_grown BZ7.out hg (fun h_ => by have h2_ : w5.heap.size + 2 ≤ w5.heap.size + 1 ∧ w5.heap.size + 1 < wa.heap.size := HO7.out.1 _ h_.symm; omega))
          have BR8 := Aside0.mk (blk_grown BR7.out hg (fun h_ => by have h2_ : w5.heap.size + 2 ≤ w.heap.size ∧ w.heap.size < wa.heap.size := HO7.out.1 _ h_.symm; have := HW4.out; have := HW5.out; omega))
          have HR8 : Aside0 (Rch w8 w4.heap.size) := ⟨by obtain ⟨cs, p1, p2⟩ := HR7.out; exact ⟨cs, blk_grown p1 hg (fun h_ => by have h2_ : w5.heap.size + 2 ≤ w4.heap.size ∧ w4.heap.size < wa.heap.size := HO7.out.1 _ h_.symm; have := HW5.out; omega), p2⟩⟩
          have HS8 : Aside0 (wa.heap.size + 1 ≤ w8.heap.size) := ⟨Nat.le_trans HS7.out hg.size⟩
          have HB8 := Aside0.mk hb
          have HO8 := Aside0.mk ho
          clear ho hb hg hat
          refine hK.out _ _ ⟨(blk_cell BC8.out 0).trans rfl, (blk_cell BC8.out 1).trans rfl, (blk_cell BC8.out 2).trans rfl, (blk_cell BP8.out 1).trans rfl⟩ (fun hHeld => ?_)
          clear hK K
          refine norm_ (a' := ?_) ?_ ?_
          rotate_left
          · show Act.put _ (some 87) _ = _
            simp only [Act.put, List.setIfInBounds_toArray, List.set_cons_zero, List.set_cons_succ, i64_w, i32_w]
            rfl
          refine pure_ (i := 9) (N := some 88) (v := ?_) (a' := ?_) #[true, true, true, true, true, true, true, true, true, true, false] rfl rfl (by kernel_rfl) (fun _ _ _ h => h) (Or.inl ⟨by rfl, ?_⟩) ?_ ?_
          rotate_left
          · intro w'
            go_simp
            with_reducible rfl
          rotate_left
          · simp only [Act.put, List.setIfInBounds_toArray, List.set_cons_zero, List.set_cons_succ, i64_w, i32_w]
            rfl
          refine last_ (i := 10) (N := none) #[true, true, true, true, true, true, true, true, true, true, true] rfl rfl (by kernel_rfl) (by decide) (fun K hK => ?_)
          have c83 : w8.cell? ⟨w5.heap.size, 1, none⟩ = some v := (blk_cell BP8.out 1).trans rfl
          have cf8 : w8.frozen? ⟨w5.heap.size, 1, none⟩ = false := blk_frozen BP8.out 1
          refine skip_ (w1 := ?_) (by rfl) rfl ?_ ?_
          rotate_left
          · go_simp
            rfl
          refine hK.out _ _ ?_
          clear hK K
          refine done_ (by kernel_rfl) ?_
          all_goals go_wp2
          all_goals
            go_roundg k1
            case measure => omega
            case rel =>
              refine ⟨i + 1, z2, _, ys, rfl, ⟨by have h1_ := HI.out; have h2_ := HM2.out; have h_ : ys.length = xs.length + 1 := (by rw [Nys.out]; simp); omega⟩, HL2, ⟨?_⟩, ⟨blk_put BP8.out 1 _ rfl⟩, ⟨blk_far BZ8.out (by simp) _⟩, ⟨blk_far BR8.out (by have h1_ := HW4.out; have h2_ := HW5.out; simp; omega) _⟩, ⟨?_⟩, ⟨by have h1_ := HS8.out; have h2_ := HA0.out; simp; omega⟩, ⟨below_set HB8.out (by have h1_ := HW4.out; have h2_ := HW5.out; omega)⟩⟩
              · exact Kd.R_far HO8.out (fun k_ hk => by simp; omega) _
              · obtain ⟨cs, p1, p2⟩ := HR8.out
                exact ⟨cs, blk_far p1 (by have h2_ := HW5.out; simp; omega) _, p2⟩
        · have e0 := HAA.out
          simp only [mkA] at e0
          rw [if_neg (by decide), if_neg (by decide), if_neg (by decide), if_pos trivial] at e0
          have g1 := Int.tmod_nonneg 3 HM2.out.1
          have g2 := Int.tmod_lt_of_pos z2 (show (0 : Int) < 3 by decide)
          have wt : IntKind.i64.wrap (z2.tmod 3) = z2.tmod 3 := Hw.wrap_w (by omega) (by omega)
          have wt2 : IntKind.i64.wrap (z2.tmod 3 + 1) = aA := by rw [Hw.wrap_w (by omega) (by omega)]; exact e0
          clear g1 g2 e0
          go_wp2_with (first
            | (go_at_call 97; (with_reducible refine (mkNext.calls wr (w5.heap.size + 1) z BZ.out HI.out.2.2.1 HI.out.2.2.2).mono ?_); rintro e wa ⟨he, hw⟩; rw [← HZ1.out] at he hw; subst he; have hsz : wa.heap.size = wr.heap.size := (by rw [hw]; simp); have BPa := Aside0.mk (show wa.heap[w5.heap.size]? = some (.cells #[.int .i64 a0, v] 35 (0, 0)) by rw [hw]; exact blk_far BP.out (by simp) _); have BZa := Aside0.mk (show wa.heap[w5.heap.size + 1]? = some (.cells #[.int .i64 z1] 3 (0, 0)) by rw [hw]; exact blk_put BZ.out 0 _ rfl); have BRa := Aside0.mk (show wa.heap[w.heap.size]? = some (.cells #[.int .i64 0, .slice none 0 0] 35 (0, 0)) by rw [hw]; exact blk_far BR.out (by have := HW4.out; have := HW5.out; simp; omega) _); have HRa : Aside0 (Rch wa w4.heap.size) := ⟨by obtain ⟨cs, p1, p2⟩ := HRc.out; exact ⟨cs, by rw [hw]; exact blk_far p1 (by have := HW5.out; simp; omega) _, p2⟩⟩; have HOa := Aside0.mk (show Kd.R k25 25 wa w.heap.size (fun k_ => w5.heap.size + 2 ≤ k_) v xs by rw [hw]; exact Kd.R_far HO5.out (fun k_ hk => by simp; omega) _); have HBa := Aside0.mk (show Below w.heap.size w wa by rw [hw]; exact below_set HBr.out (by have := HW4.out; have := HW5.out; omega)); have HSa := Aside0.mk hsz; clear hw hsz)
            | (go_at_call 97; (with_reducible refine (mkNext.calls (wa.alloc (.cells #[.int .i64 3, .int .i64 0, .int .i64 0] 25 (0, 0))) (w5.heap.size + 1) z1 (blk_alloc BZa.out _) HM1.out.1 HM1.out.2).mono ?_); rintro e wb ⟨he, hw⟩; rw [← HZ2.out] at he hw; subst he; have hsz : wb.heap.size = wa.heap.size + 1 := (by rw [hw]; simp); have BPb := Aside0.mk (show wb.heap[w5.heap.size]? = some (.cells #[.int .i64 a0, v] 35 (0, 0)) by rw [hw]; exact blk_far (blk_alloc BPa.out _) (by simp) _); have BZb := Aside0.mk (show wb.heap[w5.heap.size + 1]? = some (.cells #[.int .i64 z2] 3 (0, 0)) by rw [hw]; exact blk_put (blk_alloc BZa.out _) 0 _ rfl); have BRb := Aside0.mk (show wb.heap[w.heap.size]? = some (.cells #[.int .i64 0, .slice none 0 0] 35 (0, 0)) by rw [hw]; exact blk_far (blk_alloc BRa.out _) (by have := HW4.out; have := HW5.out; simp; omega) _); have HRb : Aside0 (Rch wb w4.heap.size) := ⟨by obtain ⟨cs, p1, p2⟩ := HRa.out; exact ⟨cs, by rw [hw]; exact blk_far (blk_alloc p1 _) (by have := HW5.out; simp; omega) _, p2⟩⟩; have HOb := Aside0.mk (show Kd.R k25 25 wb w.heap.size (fun k_ => w5.heap.size + 2 ≤ k_ ∧ k_ < wa.heap.size) v xs by rw [hw]; exact Kd.R_far (Kd.R_alloc (Kd.R_mono (Kd.R_bound HOa.out) (fun k_ hk => ⟨hk.1, hk.2.2.1⟩)) _) (fun k_ hk => by simp; omega) _); have HBb := Aside0.mk (show Below w.heap.size w wb by rw [hw]; exact below_set (below_alloc HBa.out _) (by have := HW4.out; have := HW5.out; omega)); have HSb := Aside0.mk hsz; have BCb := Aside0.mk (show wb.heap[wa.heap.size]? = some (.cells #[.int .i64 3, .int .i64 0, .int .i64 0] 25 (0, 0)) by rw [hw]; exact blk_far (blk_new _ _) (by have := HSr.out; have := HSa.out; simp; omega) _); have cc0 := (blk_cell BCb.out 0).trans rfl; have cf1 := blk_frozen BCb.out 1; have cc1 := (blk_cell BCb.out 1).trans rfl; clear hw hsz))
          obtain ⟨w6, hw6⟩ : ∃ w6, w6 = wb.setCell ⟨wa.heap.size, 1, none⟩ (.int .i64 aA) := ⟨_, rfl⟩
          have hA0 : w5.heap.size + 2 ≤ wa.heap.size := by have := HSr.out; have := HSa.out; omega
          have hA4 : w4.heap.size < wa.heap.size := by have := HW5.out; omega
          have hA5 : w.heap.size < wa.heap.size := by have := HW4.out; omega
          have BC6 := Aside0.mk (show w6.heap[wa.heap.size]? = some (.cells #[.int .i64 3, .int .i64 aA, .int .i64 0] 25 (0, 0)) by rw [hw6]; exact blk_put BCb.out 1 _ rfl)
          have BP6 := Aside0.mk (show w6.heap[w5.heap.size]? = some (.cells #[.int .i64 a0, v] 35 (0, 0)) by rw [hw6]; exact blk_far BPb.out (by simp; omega) _)
          have BZ6 := Aside0.mk (show w6.heap[w5.heap.size + 1]? = some (.cells #[.int .i64 z2] 3 (0, 0)) by rw [hw6]; exact blk_far BZb.out (by simp; omega) _)
          have BR6 := Aside0.mk (show w6.heap[w.heap.size]? = some (.cells #[.int .i64 0, .slice none 0 0] 35 (0, 0)) by rw [hw6]; exact blk_far BRb.out (by simp; omega) _)
          have HR6 : Aside0 (Rch w6 w4.heap.size) := ⟨by obtain ⟨cs, p1, p2⟩ := HRb.out; exact ⟨cs, by rw [hw6]; exact blk_far p1 (by simp; omega) _, p2⟩⟩
          have HO6 := Aside0.mk (show Kd.R k25 25 w6 w.heap.size (fun k_ => w5.heap.size + 2 ≤ k_ ∧ k_ < wa.heap.size) v xs by rw [hw6]; exact Kd.R_far HOb.out (fun k_ hk => by simp; omega) _)
          have HB6 := Aside0.mk (show Below w.heap.size w w6 by rw [hw6]; exact below_set HBb.out (by omega))
          have HS6 : Aside0 (w6.heap.size = wa.heap.size + 1) := ⟨by rw [hw6]; simpa using HSb.out⟩
          have HA0 := Aside0.mk hA0
          have c60 := (blk_cell BC6.out 0).trans rfl
          have c61 := (blk_cell BC6.out 1).trans rfl
          have c62 := (blk_cell BC6.out 2).trans rfl
          have c63 := (blk_cell BP6.out 1).trans rfl
          have HR6d : Rch w6.drew w4.heap.size := by obtain ⟨cs, p1, p2⟩ := HR6.out; exact ⟨cs, blk_drew p1, p2⟩
          rw [← hw6]
          clear hw6 BPb BZb BRb HRb HOb HBb BCb HSb cc0 cf1 cc1 BPa BZa BRa HRa HOa HBa hA0 hA4 hA5 HO5 BP BZ BR HRc HBr
          refine start_ (n := 11) (S := fun w' => w'.cell? ⟨wa.heap.size, 0, none⟩ = some (.int .i64 3) ∧ w'.cell? ⟨wa.heap.size, 1, none⟩ = some (.int .i64 aA) ∧ w'.cell? ⟨wa.heap.size, 2, none⟩ = some (.int .i64 0) ∧ w'.cell? ⟨w5.heap.size, 1, none⟩ = some v) (ds := [10]) #[false, false, false, false, false, false, false, false, false, false, false] (by kernel_rfl) rfl rfl ⟨(blk_cell (blk_drew BC6.out) 0).trans rfl, (blk_cell (blk_drew BC6.out) 1).trans rfl, (blk_cell (blk_drew BC6.out) 2).trans rfl, (blk_cell (blk_drew BP6.out) 1).trans rfl⟩ (fun hHeld => ?_)
          refine pure_ (i := 0) (N := some 79) (v := ?_) (a' := ?_) #[true, false, false, false, false, false, false, false, false, false, false] rfl rfl (by kernel_rfl) (fun _ _ _ h => h) (Or.inl ⟨by rfl, ?_⟩) ?_ ?_
          rotate_left
          · intro w'
            go_simp
            with_reducible rfl
          rotate_left
          · simp only [Act.put, List.setIfInBounds_toArray, List.set_cons_zero, List.set_cons_succ, i64_w, i32_w]
            rfl
          refine pure_ (i := 2) (N := some 81) (v := ?_) (a' := ?_) #[true, false, true, false, false, false, false, false, false, false, false] rfl rfl (by kernel_rfl) (fun _ _ _ h => h) (Or.inl ⟨by rfl, ?_⟩) ?_ ?_
          rotate_left
          · intro w'
            go_simp
            with_reducible rfl
          rotate_left
          · simp only [Act.put, List.setIfInBounds_toArray, List.set_cons_zero, List.set_cons_succ, i64_w, i32_w]
            rfl
          refine pure_ (i := 3) (N := some 82) (v := ?_) (a' := ?_) #[true, false, true, true, false, false, false, false, false, false, false] rfl rfl (by kernel_rfl) (fun _ _ _ h => h) (Or.inl ⟨by rfl, ?_⟩) ?_ ?_
          rotate_left
          · intro w'
            go_simp
            with_reducible rfl
          rotate_left
          · simp only [Act.put, List.setIfInBounds_toArray, List.set_cons_zero, List.set_cons_succ, i64_w, i32_w]
            rfl
          refine pure_ (i := 5) (N := some 84) (v := ?_) (a' := ?_) #[true, false, true, true, false, true, false, false, false, false, false] rfl rfl (by kernel_rfl) (fun _ _ _ h => h) (Or.inl ⟨by rfl, ?_⟩) ?_ ?_
          rotate_left
          · intro w'
            go_simp
            with_reducible rfl
          rotate_left
          · simp only [Act.put, List.setIfInBounds_toArray, List.set_cons_zero, List.set_cons_succ, i64_w, i32_w]
            rfl
          refine take_ (i := 1) (N := some 80) (v := ?_) (a' := ?_) #[true, true, true, true, false, true, false, false, false, false, false] rfl rfl (by kernel_rfl) (fun _ _ _ h => h) (Or.inl ⟨by rfl, ?_⟩) hHeld ?_ ?_
          rotate_left
          · rintro w' ⟨s0, s1, s2, s3⟩
            go_simp
            with_reducible rfl
          rotate_left
          · simp only [Act.put, List.setIfInBounds_toArray, List.set_cons_zero, List.set_cons_succ, i64_w, i32_w]
            rfl
          refine take_ (i := 4) (N := some 83) (v := ?_) (a' := ?_) #[true, true, true, true, true, true, false, false, false, false, false] rfl rfl (by kernel_rfl) (fun _ _ _ h => h) (Or.inl ⟨by rfl, ?_⟩) hHeld ?_ ?_
          rotate_left
          · rintro w' ⟨s0, s1, s2, s3⟩
            go_simp
            with_reducible rfl
          rotate_left
          · simp only [Act.put, List.setIfInBounds_toArray, List.set_cons_zero, List.set_cons_succ, i64_w, i32_w]
            rfl
          refine one_ (i := 6) (N := some 85) #[true, true, true, true, true, true, true, false, false, false, false] rfl rfl (by kernel_rfl) (by decide) (fun K hK => ?_)
          refine goes_ Try.func98 (by kernel_rfl) rfl #[.pointer (some ⟨w4.heap.size, 0, none⟩), .int .i64 a0, .agg #[.int .i64 3, .int .i64 aA, .int .i64 0], .int .i64 a1] (by rfl) rfl rfl (by simp only [List.map_toArray, List.map_cons, List.map_nil]; rfl) ?_
          with_reducible refine (asHas.calls w6.drew w4.heap.size a0 3 aA 0 a1 HR6d HOK.out (by have := HG.out; omega) (by have := HG.out; omega) (by have := HG.out; omega) (by have := HG.out; omega)).mono ?_
          rintro e w7 ⟨rfl, hb⟩
          refine ⟨_, rfl, ?_⟩
          have BC7 := Aside0.mk (blk_below (w := w6.drew) (blk_drew BC6.out) hb)
          have BP7 := Aside0.mk (blk_below (w := w6.drew) (blk_drew BP6.out) hb)
          have BZ7 := Aside0.mk (blk_below (w := w6.drew) (blk_drew BZ6.out) hb)
          have BR7 := Aside0.mk (blk_below (w := w6.drew) (blk_drew BR6.out) hb)
          have HR7 : Aside0 (Rch w7 w4.heap.size) := ⟨by obtain ⟨cs, p1, p2⟩ := HR6.out; exact ⟨cs, blk_below (w := w6.drew) (blk_drew p1) hb, p2⟩⟩
          have HO7 := Aside0.mk (Kd.R_below (w := w6.drew) (Kd.R_drew HO6.out) hb)
          have HB7 := Aside0.mk (below_step (below_drew1 HB6.out) hb)
          have HS7 : Aside0 (wa.heap.size + 1 ≤ w7.heap.size) := ⟨by have h1_ := hb.size; have h2_ := HS6.out; have h3_ : w6.drew.heap.size = w6.heap.size := rfl; omega⟩
          clear hb
          refine hK.out _ _ ⟨(blk_cell BC7.out 0).trans rfl, (blk_cell BC7.out 1).trans rfl, (blk_cell BC7.out 2).trans rfl, (blk_cell BP7.out 1).trans rfl⟩ (fun hHeld => ?_)
          clear hK K
          refine norm_ (a' := ?_) ?_ ?_
          rotate_left
          · show Act.put _ (some 85) _ = _
            simp only [Act.put, List.setIfInBounds_toArray, List.set_cons_zero, List.set_cons_succ, i64_w, i32_w]
            rfl
          refine one_ (i := 7) (N := some 86) #[true, true, true, true, true, true, true, true, false, false, false] rfl rfl (by kernel_rfl) (by decide) (fun K hK => ?_)
          refine value_ (w1 := ?_) (v := ?_) (by rfl) rfl ?_ ?_
          rotate_left 2
          · go_simp
            constructor
            · rfl
            · rfl
          refine hK.out _ _ ⟨(blk_cell (blk_alloc BC7.out _) 0).trans rfl, (blk_cell (blk_alloc BC7.out _) 1).trans rfl, (blk_cell (blk_alloc BC7.out _) 2).trans rfl, (blk_cell (blk_alloc BP7.out _) 1).trans rfl⟩ (fun hHeld => ?_)
          clear hK K
          refine norm_ (a' := ?_) ?_ ?_
          rotate_left
          · show Act.put _ (some 86) _ = _
            simp only [Act.put, List.setIfInBounds_toArray, List.set_cons_zero, List.set_cons_succ, i64_w, i32_w]
            rfl
          refine one_ (i := 8) (N := some 87) #[true, true, true, true, true, true, true, true, true, false, false] rfl rfl (by kernel_rfl) (by decide) (fun K hK => ?_)
          refine Kd.R_append_step k25 (w0 := w) (W := w7) w.heap.size (by rfl) (.tmp 80) (.tmp 86) 33 25 (.agg #[(.int .i64 0), (.int .i64 0), (.int .i64 0)]) 24 rfl Try.underlying33 info25 rfl (by decide) (by omega) v xs (⟨3, aA, asHasV a0 3 aA a1⟩ : S25) [.int .i64 3, .int .i64 aA, .int .i64 (asHasV a0 3 aA a1)] (fun k_ => w5.heap.size + 2 ≤ k_) (fun _ => False) rfl rfl ?aP (fun _ hk => hk.elim) ?aF (Kd.R_mono HO7.out (fun k_ hk => hk.1)) HB7.out (below_size HB7.out) (by have := HXl.out; omega) ?_
          (case aP => exact k25_mkM _ _ _ (⟨3, aA, asHasV a0 3 aA a1⟩ : S25))
          (case aF => exact (fun k_ hk => by have h1_ := HS7.out; have h2_ := HA0.out; show w5.heap.size + 2 ≤ k_; omega))
          intro v8 w8 ho hb hg hat
          rw [← Nys.out] at ho
          obtain ⟨A8, c8, rfl⟩ := Kd.R_slice ho
          have BC8 := Aside0.mk (blk_grown BC7.out hg (fun h_ => by have h2_ : w5.heap.size + 2 ≤ wa.heap.size ∧ wa.heap.size < wa.heap.size := HO7.out.1 _ h_.symm; omega))
          have BP8 := Aside0.mk (blk_grown BP7.out hg (fun h_ => by have h2_ : w5.heap.size + 2 ≤ w5.heap.size ∧ w5.heap.size < wa.heap.size := HO7.out.1 _ h_.symm; omega))
          have BZ8 := Aside0.mk (blk_grown BZ7.out hg (fun h_ => by have h2_ : w5.heap.size + 2 ≤ w5.heap.size + 1 ∧ w5.heap.size + 1 < wa.heap.size := HO7.out.1 _ h_.symm; omega))
          have BR8 := Aside0.mk (blk_grown BR7.out hg (fun h_ => by have h2_ : w5.heap.size + 2 ≤ w.heap.size ∧ w.heap.size < wa.heap.size := HO7.out.1 _ h_.symm; have := HW4.out; have := HW5.out; omega))
          have HR8 : Aside0 (Rch w8 w4.heap.size) := ⟨by obtain ⟨cs, p1, p2⟩ := HR7.out; exact ⟨cs, blk_grown p1 hg (fun h_ => by have h2_ : w5.heap.size + 2 ≤ w4.heap.size ∧ w4.heap.size < wa.heap.size := HO7.out.1 _ h_.symm; have := HW5.out; omega), p2⟩⟩
          have HS8 : Aside0 (wa.heap.size + 1 ≤ w8.heap.size) := ⟨Nat.le_trans HS7.out hg.size⟩
          have HB8 := Aside0.mk hb
          have HO8 := Aside0.mk ho
          clear ho hb hg hat
          refine hK.out _ _ ⟨(blk_cell BC8.out 0).trans rfl, (blk_cell BC8.out 1).trans rfl, (blk_cell BC8.out 2).trans rfl, (blk_cell BP8.out 1).trans rfl⟩ (fun hHeld => ?_)
          clear hK K
          refine norm_ (a' := ?_) ?_ ?_
          rotate_left
          · show Act.put _ (some 87) _ = _
            simp only [Act.put, List.setIfInBounds_toArray, List.set_cons_zero, List.set_cons_succ, i64_w, i32_w]
            rfl
          refine pure_ (i := 9) (N := some 88) (v := ?_) (a' := ?_) #[true, true, true, true, true, true, true, true, true, true, false] rfl rfl (by kernel_rfl) (fun _ _ _ h => h) (Or.inl ⟨by rfl, ?_⟩) ?_ ?_
          rotate_left
          · intro w'
            go_simp
            with_reducible rfl
          rotate_left
          · simp only [Act.put, List.setIfInBounds_toArray, List.set_cons_zero, List.set_cons_succ, i64_w, i32_w]
            rfl
          refine last_ (i := 10) (N := none) #[true, true, true, true, true, true, true, true, true, true, true] rfl rfl (by kernel_rfl) (by decide) (fun K hK => ?_)
          have c83 : w8.cell? ⟨w5.heap.size, 1, none⟩ = some v := (blk_cell BP8.out 1).trans rfl
          have cf8 : w8.frozen? ⟨w5.heap.size, 1, none⟩ = false := blk_frozen BP8.out 1
          refine skip_ (w1 := ?_) (by rfl) rfl ?_ ?_
          rotate_left
          · go_simp
            rfl
          refine hK.out _ _ ?_
          clear hK K
          refine done_ (by kernel_rfl) ?_
          all_goals go_wp2
          all_goals
            go_roundg k1
            case measure => omega
            case rel =>
              refine ⟨i + 1, z2, _, ys, rfl, ⟨by have h1_ := HI.out; have h2_ := HM2.out; have h_ : ys.length = xs.length + 1 := (by rw [Nys.out]; simp); omega⟩, HL2, ⟨?_⟩, ⟨blk_put BP8.out 1 _ rfl⟩, ⟨blk_far BZ8.out (by simp) _⟩, ⟨blk_far BR8.out (by have h1_ := HW4.out; have h2_ := HW5.out; simp; omega) _⟩, ⟨?_⟩, ⟨by have h1_ := HS8.out; have h2_ := HA0.out; simp; omega⟩, ⟨below_set HB8.out (by have h1_ := HW4.out; have h2_ := HW5.out; omega)⟩⟩
              · exact Kd.R_far HO8.out (fun k_ hk => by simp; omega) _
              · obtain ⟨cs, p1, p2⟩ := HR8.out
                exact ⟨cs, blk_far p1 (by have h2_ := HW5.out; simp; omega) _, p2⟩
        · have e0 := HAA.out
          simp only [mkA] at e0
          rw [if_neg (by decide), if_neg (by decide), if_neg (by decide), if_neg (by decide)] at e0
          have g1 := Int.tmod_nonneg (a0 + 1) HM2.out.1
          have g2 := Int.tmod_lt_of_pos z2 (show 0 < a0 + 1 by have := HG.out; omega)
          have gz : (a0 + 1 = 0) = False := eq_false (by have := HG.out; omega)
          have wt0 : IntKind.i64.wrap (a0 + 1) = a0 + 1 := Hw.wrap_w (by have := HG.out; omega) (by have := HG.out; omega)
          have wt : z2.tmod (a0 + 1) = aA := e0
          clear g1 g2 e0
          go_wp2_with (first
            | (go_at_call 97; (with_reducible refine (mkNext.calls wr (w5.heap.size + 1) z BZ.out HI.out.2.2.1 HI.out.2.2.2).mono ?_); rintro e wa ⟨he, hw⟩; rw [← HZ1.out] at he hw; subst he; have hsz : wa.heap.size = wr.heap.size := (by rw [hw]; simp); have BPa := Aside0.mk (show wa.heap[w5.heap.size]? = some (.cells #[.int .i64 a0, v] 35 (0, 0)) by rw [hw]; exact blk_far BP.out (by simp) _); have BZa := Aside0.mk (show wa.heap[w5.heap.size + 1]? = some (.cells #[.int .i64 z1] 3 (0, 0)) by rw [hw]; exact blk_put BZ.out 0 _ rfl); have BRa := Aside0.mk (show wa.heap[w.heap.size]? = some (.cells #[.int .i64 0, .slice none 0 0] 35 (0, 0)) by rw [hw]; exact blk_far BR.out (by have := HW4.out; have := HW5.out; simp; omega) _); have HRa : Aside0 (Rch wa w4.heap.size) := ⟨by obtain ⟨cs, p1, p2⟩ := HRc.out; exact ⟨cs, by rw [hw]; exact blk_far p1 (by have := HW5.out; simp; omega) _, p2⟩⟩; have HOa := Aside0.mk (show Kd.R k25 25 wa w.heap.size (fun k_ => w5.heap.size + 2 ≤ k_) v xs by rw [hw]; exact Kd.R_far HO5.out (fun k_ hk => by simp; omega) _); have HBa := Aside0.mk (show Below w.heap.size w wa by rw [hw]; exact below_set HBr.out (by have := HW4.out; have := HW5.out; omega)); have HSa := Aside0.mk hsz; clear hw hsz)
            | (go_at_call 97; (with_reducible refine (mkNext.calls (wa.alloc (.cells #[.int .i64 4, .int .i64 0, .int .i64 0] 25 (0, 0))) (w5.heap.size + 1) z1 (blk_alloc BZa.out _) HM1.out.1 HM1.out.2).mono ?_); rintro e wb ⟨he, hw⟩; rw [← HZ2.out] at he hw; subst he; have hsz : wb.heap.size = wa.heap.size + 1 := (by rw [hw]; simp); have BPb := Aside0.mk (show wb.heap[w5.heap.size]? = some (.cells #[.int .i64 a0, v] 35 (0, 0)) by rw [hw]; exact blk_far (blk_alloc BPa.out _) (by simp) _); have BZb := Aside0.mk (show wb.heap[w5.heap.size + 1]? = some (.cells #[.int .i64 z2] 3 (0, 0)) by rw [hw]; exact blk_put (blk_alloc BZa.out _) 0 _ rfl); have BRb := Aside0.mk (show wb.heap[w.heap.size]? = some (.cells #[.int .i64 0, .slice none 0 0] 35 (0, 0)) by rw [hw]; exact blk_far (blk_alloc BRa.out _) (by have := HW4.out; have := HW5.out; simp; omega) _); have HRb : Aside0 (Rch wb w4.heap.size) := ⟨by obtain ⟨cs, p1, p2⟩ := HRa.out; exact ⟨cs, by rw [hw]; exact blk_far (blk_alloc p1 _) (by have := HW5.out; simp; omega) _, p2⟩⟩; have HOb := Aside0.mk (show Kd.R k25 25 wb w.heap.size (fun k_ => w5.heap.size + 2 ≤ k_ ∧ k_ < wa.heap.size) v xs by rw [hw]; exact Kd.R_far (Kd.R_alloc (Kd.R_mono (Kd.R_bound HOa.out) (fun k_ hk => ⟨hk.1, hk.2.2.1⟩)) _) (fun k_ hk => by simp; omega) _); have HBb := Aside0.mk (show Below w.heap.size w wb by rw [hw]; exact below_set (below_alloc HBa.out _) (by have := HW4.out; have := HW5.out; omega)); have HSb := Aside0.mk hsz; have BCb := Aside0.mk (show wb.heap[wa.heap.size]? = some (.cells #[.int .i64 4, .int .i64 0, .int .i64 0] 25 (0, 0)) by rw [hw]; exact blk_far (blk_new _ _) (by have := HSr.out; have := HSa.out; simp; omega) _); have cc0 := (blk_cell BCb.out 0).trans rfl; have cf1 := blk_frozen BCb.out 1; have cc1 := (blk_cell BCb.out 1).trans rfl; clear hw hsz))
          obtain ⟨w6, hw6⟩ : ∃ w6, w6 = wb.setCell ⟨wa.heap.size, 1, none⟩ (.int .i64 aA) := ⟨_, rfl⟩
          have hA0 : w5.heap.size + 2 ≤ wa.heap.size := by have := HSr.out; have := HSa.out; omega
          have hA4 : w4.heap.size < wa.heap.size := by have := HW5.out; omega
          have hA5 : w.heap.size < wa.heap.size := by have := HW4.out; omega
          have BC6 := Aside0.mk (show w6.heap[wa.heap.size]? = some (.cells #[.int .i64 4, .int .i64 aA, .int .i64 0] 25 (0, 0)) by rw [hw6]; exact blk_put BCb.out 1 _ rfl)
          have BP6 := Aside0.mk (show w6.heap[w5.heap.size]? = some (.cells #[.int .i64 a0, v] 35 (0, 0)) by rw [hw6]; exact blk_far BPb.out (by simp; omega) _)
          have BZ6 := Aside0.mk (show w6.heap[w5.heap.size + 1]? = some (.cells #[.int .i64 z2] 3 (0, 0)) by rw [hw6]; exact blk_far BZb.out (by simp; omega) _)
          have BR6 := Aside0.mk (show w6.heap[w.heap.size]? = some (.cells #[.int .i64 0, .slice none 0 0] 35 (0, 0)) by rw [hw6]; exact blk_far BRb.out (by simp; omega) _)
          have HR6 : Aside0 (Rch w6 w4.heap.size) := ⟨by obtain ⟨cs, p1, p2⟩ := HRb.out; exact ⟨cs, by rw [hw6]; exact blk_far p1 (by simp; omega) _, p2⟩⟩
          have HO6 := Aside0.mk (show Kd.R k25 25 w6 w.heap.size (fun k_ => w5.heap.size + 2 ≤ k_ ∧ k_ < wa.heap.size) v xs by rw [hw6]; exact Kd.R_far HOb.out (fun k_ hk => by simp; omega) _)
          have HB6 := Aside0.mk (show Below w.heap.size w w6 by rw [hw6]; exact below_set HBb.out (by omega))
          have HS6 : Aside0 (w6.heap.size = wa.heap.size + 1) := ⟨by rw [hw6]; simpa using HSb.out⟩
          have HA0 := Aside0.mk hA0
          have c60 := (blk_cell BC6.out 0).trans rfl
          have c61 := (blk_cell BC6.out 1).trans rfl
          have c62 := (blk_cell BC6.out 2).trans rfl
          have c63 := (blk_cell BP6.out 1).trans rfl
          have HR6d : Rch w6.drew w4.heap.size := by obtain ⟨cs, p1, p2⟩ := HR6.out; exact ⟨cs, blk_drew p1, p2⟩
          rw [← hw6]
          clear hw6 BPb BZb BRb HRb HOb HBb BCb HSb cc0 cf1 cc1 BPa BZa BRa HRa HOa HBa hA0 hA4 hA5 HO5 BP BZ BR HRc HBr
          refine start_ (n := 11) (S := fun w' => w'.cell? ⟨wa.heap.size, 0, none⟩ = some (.int .i64 4) ∧ w'.cell? ⟨wa.heap.size, 1, none⟩ = some (.int .i64 aA) ∧ w'.cell? ⟨wa.heap.size, 2, none⟩ = some (.int .i64 0) ∧ w'.cell? ⟨w5.heap.size, 1, none⟩ = some v) (ds := [10]) #[false, false, false, false, false, false, false, false, false, false, false] (by kernel_rfl) rfl rfl ⟨(blk_cell (blk_drew BC6.out) 0).trans rfl, (blk_cell (blk_drew BC6.out) 1).trans rfl, (blk_cell (blk_drew BC6.out) 2).trans rfl, (blk_cell (blk_drew BP6.out) 1).trans rfl⟩ (fun hHeld => ?_)
          refine pure_ (i := 0) (N := some 79) (v := ?_) (a' := ?_) #[true, false, false, false, false, false, false, false, false, false, false] rfl rfl (by kernel_rfl) (fun _ _ _ h => h) (Or.inl ⟨by rfl, ?_⟩) ?_ ?_
          rotate_left
          · intro w'
            go_simp
            with_reducible rfl
          rotate_left
          · simp only [Act.put, List.setIfInBounds_toArray, List.set_cons_zero, List.set_cons_succ, i64_w, i32_w]
            rfl
          refine pure_ (i := 2) (N := some 81) (v := ?_) (a' := ?_) #[true, false, true, false, false, false, false, false, false, false, false] rfl rfl (by kernel_rfl) (fun _ _ _ h => h) (Or.inl ⟨by rfl, ?_⟩) ?_ ?_
          rotate_left
          · intro w'
            go_simp
            with_reducible rfl
          rotate_left
          · simp only [Act.put, List.setIfInBounds_toArray, List.set_cons_zero, List.set_cons_succ, i64_w, i32_w]
            rfl
          refine pure_ (i := 3) (N := some 82) (v := ?_) (a' := ?_) #[true, false, true, true, false, false, false, false, false, false, false] rfl rfl (by kernel_rfl) (fun _ _ _ h => h) (Or.inl ⟨by rfl, ?_⟩) ?_ ?_
          rotate_left
          · intro w'
            go_simp
            with_reducible rfl
          rotate_left
          · simp only [Act.put, List.setIfInBounds_toArray, List.set_cons_zero, List.set_cons_succ, i64_w, i32_w]
            rfl
          refine pure_ (i := 5) (N := some 84) (v := ?_) (a' := ?_) #[true, false, true, true, false, true, false, false, false, false, false] rfl rfl (by kernel_rfl) (fun _ _ _ h => h) (Or.inl ⟨by rfl, ?_⟩) ?_ ?_
          rotate_left
          · intro w'
            go_simp
            with_reducible rfl
          rotate_left
          · simp only [Act.put, List.setIfInBounds_toArray, List.set_cons_zero, List.set_cons_succ, i64_w, i32_w]
            rfl
          refine take_ (i := 1) (N := some 80) (v := ?_) (a' := ?_) #[true, true, true, true, false, true, false, false, false, false, false] rfl rfl (by kernel_rfl) (fun _ _ _ h => h) (Or.inl ⟨by rfl, ?_⟩) hHeld ?_ ?_
          rotate_left
          · rintro w' ⟨s0, s1, s2, s3⟩
            go_simp
            with_reducible rfl
          rotate_left
          · simp only [Act.put, List.setIfInBounds_toArray, List.set_cons_zero, List.set_cons_succ, i64_w, i32_w]
            rfl
          refine take_ (i := 4) (N := some 83) (v := ?_) (a' := ?_) #[true, true, true, true, true, true, false, false, false, false, false] rfl rfl (by kernel_rfl) (fun _ _ _ h => h) (Or.inl ⟨by rfl, ?_⟩) hHeld ?_ ?_
          rotate_left
          · rintro w' ⟨s0, s1, s2, s3⟩
            go_simp
            with_reducible rfl
          rotate_left
          · simp only [Act.put, List.setIfInBounds_toArray, List.set_cons_zero, List.set_cons_succ, i64_w, i32_w]
            rfl
          refine one_ (i := 6) (N := some 85) #[true, true, true, true, true, true, true, false, false, false, false] rfl rfl (by kernel_rfl) (by decide) (fun K hK => ?_)
          refine goes_ Try.func98 (by kernel_rfl) rfl #[.pointer (some ⟨w4.heap.size, 0, none⟩), .int .i64 a0, .agg #[.int .i64 4, .int .i64 aA, .int .i64 0], .int .i64 a1] (by rfl) rfl rfl (by simp only [List.map_toArray, List.map_cons, List.map_nil]; rfl) ?_
          with_reducible refine (asHas.calls w6.drew w4.heap.size a0 4 aA 0 a1 HR6d HOK.out (by have := HG.out; omega) (by have := HG.out; omega) (by have := HG.out; omega) (by have := HG.out; omega)).mono ?_
          rintro e w7 ⟨rfl, hb⟩
          refine ⟨_, rfl, ?_⟩
          have BC7 := Aside0.mk (blk_below (w := w6.drew) (blk_drew BC6.out) hb)
          have BP7 := Aside0.mk (blk_below (w := w6.drew) (blk_drew BP6.out) hb)
          have BZ7 := Aside0.mk (blk_below (w := w6.drew) (blk_drew BZ6.out) hb)
          have BR7 := Aside0.mk (blk_below (w := w6.drew) (blk_drew BR6.out) hb)
          have HR7 : Aside0 (Rch w7 w4.heap.size) := ⟨by obtain ⟨cs, p1, p2⟩ := HR6.out; exact ⟨cs, blk_below (w := w6.drew) (blk_drew p1) hb, p2⟩⟩
          have HO7 := Aside0.mk (Kd.R_below (w := w6.drew) (Kd.R_drew HO6.out) hb)
          have HB7 := Aside0.mk (below_step (below_drew1 HB6.out) hb)
          have HS7 : Aside0 (wa.heap.size + 1 ≤ w7.heap.size) := ⟨by have h1_ := hb.size; have h2_ := HS6.out; have h3_ : w6.drew.heap.size = w6.heap.size := rfl; omega⟩
          clear hb
          refine hK.out _ _ ⟨(blk_cell BC7.out 0).trans rfl, (blk_cell BC7.out 1).trans rfl, (blk_cell BC7.out 2).trans rfl, (blk_cell BP7.out 1).trans rfl⟩ (fun hHeld => ?_)
          clear hK K
          refine norm_ (a' := ?_) ?_ ?_
          rotate_left
          · show Act.put _ (some 85) _ = _
            simp only [Act.put, List.setIfInBounds_toArray, List.set_cons_zero, List.set_cons_succ, i64_w, i32_w]
            rfl
          refine one_ (i := 7) (N := some 86) #[true, true, true, true, true, true, true, true, false, false, false] rfl rfl (by kernel_rfl) (by decide) (fun K hK => ?_)
          refine value_ (w1 := ?_) (v := ?_) (by rfl) rfl ?_ ?_
          rotate_left 2
          · go_simp
            constructor
            · rfl
            · rfl
          refine hK.out _ _ ⟨(blk_cell (blk_alloc BC7.out _) 0).trans rfl, (blk_cell (blk_alloc BC7.out _) 1).trans rfl, (blk_cell (blk_alloc BC7.out _) 2).trans rfl, (blk_cell (blk_alloc BP7.out _) 1).trans rfl⟩ (fun hHeld => ?_)
          clear hK K
          refine norm_ (a' := ?_) ?_ ?_
          rotate_left
          · show Act.put _ (some 86) _ = _
            simp only [Act.put, List.setIfInBounds_toArray, List.set_cons_zero, List.set_cons_succ, i64_w, i32_w]
            rfl
          refine one_ (i := 8) (N := some 87) #[true, true, true, true, true, true, true, true, true, false, false] rfl rfl (by kernel_rfl) (by decide) (fun K hK => ?_)
          refine Kd.R_append_step k25 (w0 := w) (W := w7) w.heap.size (by rfl) (.tmp 80) (.tmp 86) 33 25 (.agg #[(.int .i64 0), (.int .i64 0), (.int .i64 0)]) 24 rfl Try.underlying33 info25 rfl (by decide) (by omega) v xs (⟨4, aA, asHasV a0 4 aA a1⟩ : S25) [.int .i64 4, .int .i64 aA, .int .i64 (asHasV a0 4 aA a1)] (fun k_ => w5.heap.size + 2 ≤ k_) (fun _ => False) rfl rfl ?aP (fun _ hk => hk.elim) ?aF (Kd.R_mono HO7.out (fun k_ hk => hk.1)) HB7.out (below_size HB7.out) (by have := HXl.out; omega) ?_
          (case aP => exact k25_mkM _ _ _ (⟨4, aA, asHasV a0 4 aA a1⟩ : S25))
          (case aF => exact (fun k_ hk => by have h1_ := HS7.out; have h2_ := HA0.out; show w5.heap.size + 2 ≤ k_; omega))
          intro v8 w8 ho hb hg hat
          rw [← Nys.out] at ho
          obtain ⟨A8, c8, rfl⟩ := Kd.R_slice ho
          have BC8 := Aside0.mk (blk_grown BC7.out hg (fun h_ => by have h2_ : w5.heap.size + 2 ≤ wa.heap.size ∧ wa.heap.size < wa.heap.size := HO7.out.1 _ h_.symm; omega))
          have BP8 := Aside0.mk (blk_grown BP7.out hg (fun h_ => by have h2_ : w5.heap.size + 2 ≤ w5.heap.size ∧ w5.heap.size < wa.heap.size := HO7.out.1 _ h_.symm; omega))
          have BZ8 := Aside0.mk (blk_grown BZ7.out hg (fun h_ => by have h2_ : w5.heap.size + 2 ≤ w5.heap.size + 1 ∧ w5.heap.size + 1 < wa.heap.size := HO7.out.1 _ h_.symm; omega))
          have BR8 := Aside0.mk (blk_grown BR7.out hg (fun h_ => by have h2_ : w5.heap.size + 2 ≤ w.heap.size ∧ w.heap.size < wa.heap.size := HO7.out.1 _ h_.symm; have := HW4.out; have := HW5.out; omega))
          have HR8 : Aside0 (Rch w8 w4.heap.size) := ⟨by obtain ⟨cs, p1, p2⟩ := HR7.out; exact ⟨cs, blk_grown p1 hg (fun h_ => by have h2_ : w5.heap.size + 2 ≤ w4.heap.size ∧ w4.heap.size < wa.heap.size := HO7.out.1 _ h_.symm; have := HW5.out; omega), p2⟩⟩
          have HS8 : Aside0 (wa.heap.size + 1 ≤ w8.heap.size) := ⟨Nat.le_trans HS7.out hg.size⟩
          have HB8 := Aside0.mk hb
          have HO8 := Aside0.mk ho
          clear ho hb hg hat
          refine hK.out _ _ ⟨(blk_cell BC8.out 0).trans rfl, (blk_cell BC8.out 1).trans rfl, (blk_cell BC8.out 2).trans rfl, (blk_cell BP8.out 1).trans rfl⟩ (fun hHeld => ?_)
          clear hK K
          refine norm_ (a' := ?_) ?_ ?_
          rotate_left
          · show Act.put _ (some 87) _ = _
            simp only [Act.put, List.setIfInBounds_toArray, List.set_cons_zero, List.set_cons_succ, i64_w, i32_w]
            rfl
          refine pure_ (i := 9) (N := some 88) (v := ?_) (a' := ?_) #[true, true, true, true, true, true, true, true, true, true, false] rfl rfl (by kernel_rfl) (fun _ _ _ h => h) (Or.inl ⟨by rfl, ?_⟩) ?_ ?_
          rotate_left
          · intro w'
            go_simp
            with_reducible rfl
          rotate_left
          · simp only [Act.put, List.setIfInBounds_toArray, List.set_cons_zero, List.set_cons_succ, i64_w, i32_w]
            rfl
          refine last_ (i := 10) (N := none) #[true, true, true, true, true, true, true, true, true, true, true] rfl rfl (by kernel_rfl) (by decide) (fun K hK => ?_)
          have c83 : w8.cell? ⟨w5.heap.size, 1, none⟩ = some v := (blk_cell BP8.out 1).trans rfl
          have cf8 : w8.frozen? ⟨w5.heap.size, 1, none⟩ = false := blk_frozen BP8.out 1
          refine skip_ (w1 := ?_) (by rfl) rfl ?_ ?_
          rotate_left
          · go_simp
            rfl
          refine hK.out _ _ ?_
          clear hK K
          refine done_ (by kernel_rfl) ?_
          all_goals go_wp2
          all_goals
            go_roundg k1
            case measure => omega
            case rel =>
              refine ⟨i + 1, z2, _, ys, rfl, ⟨by have h1_ := HI.out; have h2_ := HM2.out; have h_ : ys.length = xs.length + 1 := (by rw [Nys.out]; simp); omega⟩, HL2, ⟨?_⟩, ⟨blk_put BP8.out 1 _ rfl⟩, ⟨blk_far BZ8.out (by simp) _⟩, ⟨blk_far BR8.out (by have h1_ := HW4.out; have h2_ := HW5.out; simp; omega) _⟩, ⟨?_⟩, ⟨by have h1_ := HS8.out; have h2_ := HA0.out; simp; omega⟩, ⟨below_set HB8.out (by have h1_ := HW4.out; have h2_ := HW5.out; omega)⟩⟩
              · exact Kd.R_far HO8.out (fun k_ hk => by simp; omega) _
              · obtain ⟨cs, p1, p2⟩ := HR8.out
                exact ⟨cs, blk_far p1 (by have h2_ := HW5.out; simp; omega) _, p2⟩
      · have d1 : decide ((i : Int) < a2) = false := decide_eq_false hlt
        have HL2 : Aside0 (xs = r2) := ⟨by have := HI.out; rw [← HL.out, show gk = 0 by omega]; simp [mkFrom]⟩
        obtain ⟨Av, cv, rfl⟩ := Kd.R_slice HO5.out
        have c1 := (blk_cell BP.out 0).trans rfl
        have c2 := (blk_cell BP.out 1).trans rfl
        have c3 := (blk_cell BR.out 0).trans rfl
        have c4 := (blk_cell BR.out 1).trans rfl
        have f3 := blk_frozen BR.out 0
        have f4 := blk_frozen BR.out 1
        clear hlt
        go_wp2
        refine bodyPost_ret (results_ct rfl _ _ w.heap.size 35 #[.int .i64 a0, .slice Av xs.length cv] (0, 0) _ rfl (by refine blk_put (cs := #[.int .i64 a0, .slice none 0 0]) ?_ 1 _ rfl; exact blk_put BR.out 0 _ rfl) Try.underlying35 rfl (by kernel_rfl)) rfl ?_
        refine ⟨_, rfl, ?_, below_set (below_set HBr.out (Nat.le_refl _)) (Nat.le_refl _)⟩
        rw [← HL2.out]
        exact Kd.R_mono (Kd.R_far (Kd.R_far HO5.out (fun k_ hk => by have h1_ := HW4.out; have h2_ := HW5.out; simp; omega) _) (fun k_ hk => by have h1_ := HW4.out; have h2_ := HW5.out; simp; omega) _) (fun _ _ => trivial)
  · rw [if_neg hg] at h
    simp only [Option.some.injEq, Prod.mk.injEq] at h
    obtain ⟨rfl, rfl, rfl⟩ := h
    cases b1 with
    | false =>
      clear hg
      go_enter Try.func37, Try.ntmps37
      go_wp2_with (first
        | (go_at_call 74; refine (impl_isHiddenHouse.calls _ _ _ H1.out).mono ?_; rintro e w1 ⟨rfl, ⟨nd, hnd⟩⟩; have HB1 : Aside0 (Below w.heap.size w w1) := ⟨by rw [hnd]; exact pw_below_drewN HB.out _⟩; have BR1 : Aside0 (w1.heap[w.heap.size]? = some (.cells #[.int .i64 0, .slice none 0 0] 35 (0, 0))) := ⟨by rw [hnd]; exact blk_drewN BR.out _⟩; clear hnd; have c_0 := (blk_cell BR1.out 0).trans rfl; have c_1 := (blk_cell BR1.out 1).trans rfl; have f_0 := blk_frozen BR1.out 0; have f_1 := blk_frozen BR1.out 1))
      refine bodyPost_ret (results_ct rfl _ _ w.heap.size 35 #[.int .i64 0, .slice none 0 0] (0, 0) _ rfl (by refine blk_put (cs := #[.int .i64 0, .slice none 0 0]) ?_ 1 _ rfl; exact blk_put BR1.out 0 _ rfl) Try.underlying35 rfl (by kernel_rfl)) rfl ?_
      exact ⟨_, rfl, Kd.R_nil _ _ _ _ _, below_set (below_set HB1.out (Nat.le_refl _)) (Nat.le_refl _)⟩
    | true =>
      cases b2 with
      | false =>
        clear hg
        go_enter Try.func37, Try.ntmps37
        go_wp2_with (first
          | (go_at_call 74; refine (impl_isHiddenHouse.calls _ _ _ H1.out).mono ?_; rintro e w1 ⟨rfl, ⟨nd, hnd⟩⟩; have HB1 : Aside0 (Below w.heap.size w w1) := ⟨by rw [hnd]; exact pw_below_drewN HB.out _⟩; have BR1 : Aside0 (w1.heap[w.heap.size]? = some (.cells #[.int .i64 0, .slice none 0 0] 35 (0, 0))) := ⟨by rw [hnd]; exact blk_drewN BR.out _⟩; clear hnd)
          | (go_at_call 77; refine (impl_isBreak.calls _ _ _ _ H2.out).mono ?_; rintro e w2 ⟨rfl, ⟨nd, hnd⟩⟩; have HB2 : Aside0 (Below w.heap.size w w2) := ⟨by rw [hnd]; exact pw_below_drewN HB1.out _⟩; have BR2 : Aside0 (w2.heap[w.heap.size]? = some (.cells #[.int .i64 0, .slice none 0 0] 35 (0, 0))) := ⟨by rw [hnd]; exact blk_drewN BR1.out _⟩; clear hnd; have c_0 := (blk_cell BR2.out 0).trans rfl; have c_1 := (blk_cell BR2.out 1).trans rfl; have f_0 := blk_frozen BR2.out 0; have f_1 := blk_frozen BR2.out 1))
        refine bodyPost_ret (results_ct rfl _ _ w.heap.size 35 #[.int .i64 0, .slice none 0 0] (0, 0) _ rfl (by refine blk_put (cs := #[.int .i64 0, .slice none 0 0]) ?_ 1 _ rfl; exact blk_put BR2.out 0 _ rfl) Try.underlying35 rfl (by kernel_rfl)) rfl ?_
        exact ⟨_, rfl, Kd.R_nil _ _ _ _ _, below_set (below_set HB2.out (Nat.le_refl _)) (Nat.le_refl _)⟩
      | true =>
        cases b3 with
        | false =>
          clear hg
          go_enter Try.func37, Try.ntmps37
          go_wp2_with (first
            | (go_at_call 74; refine (impl_isHiddenHouse.calls _ _ _ H1.out).mono ?_; rintro e w1 ⟨rfl, ⟨nd, hnd⟩⟩; have HB1 : Aside0 (Below w.heap.size w w1) := ⟨by rw [hnd]; exact pw_below_drewN HB.out _⟩; have BR1 : Aside0 (w1.heap[w.heap.size]? = some (.cells #[.int .i64 0, .slice none 0 0] 35 (0, 0))) := ⟨by rw [hnd]; exact blk_drewN BR.out _⟩; clear hnd)
            | (go_at_call 77; refine (impl_isBreak.calls _ _ _ _ H2.out).mono ?_; rintro e w2 ⟨rfl, ⟨nd, hnd⟩⟩; have HB2 : Aside0 (Below w.heap.size w w2) := ⟨by rw [hnd]; exact pw_below_drewN HB1.out _⟩; have BR2 : Aside0 (w2.heap[w.heap.size]? = some (.cells #[.int .i64 0, .slice none 0 0] 35 (0, 0))) := ⟨by rw [hnd]; exact blk_drewN BR1.out _⟩; clear hnd)
            | (go_at_call 75; with_reducible refine (impl_within.calls _ _ _ _ _ H3.out).mono ?_; rintro e w3 ⟨rfl, ⟨nd, hnd⟩⟩; have HB3 : Aside0 (Below w.heap.size w w3) := ⟨by rw [hnd]; exact pw_below_drewN HB2.out _⟩; have BR3 : Aside0 (w3.heap[w.heap.size]? = some (.cells #[.int .i64 0, .slice none 0 0] 35 (0, 0))) := ⟨by rw [hnd]; exact blk_drewN BR2.out _⟩; clear hnd; have c_0 := (blk_cell BR3.out 0).trans rfl; have c_1 := (blk_cell BR3.out 1).trans rfl; have f_0 := blk_frozen BR3.out 0; have f_1 := blk_frozen BR3.out 1))
          refine bodyPost_ret (results_ct rfl _ _ w.heap.size 35 #[.int .i64 0, .slice none 0 0] (0, 0) _ rfl (by refine blk_put (cs := #[.int .i64 0, .slice none 0 0]) ?_ 1 _ rfl; exact blk_put BR3.out 0 _ rfl) Try.underlying35 rfl (by kernel_rfl)) rfl ?_
          exact ⟨_, rfl, Kd.R_nil _ _ _ _ _, below_set (below_set HB3.out (Nat.le_refl _)) (Nat.le_refl _)⟩
        | true =>
          cases b4 with
          | true => exact absurd rfl hg
          | false =>
            clear hg
            go_enter Try.func37, Try.ntmps37
            go_wp2_with (first
              | (go_at_call 74; refine (impl_isHiddenHouse.calls _ _ _ H1.out).mono ?_; rintro e w1 ⟨rfl, ⟨nd, hnd⟩⟩; have HB1 : Aside0 (Below w.heap.size w w1) := ⟨by rw [hnd]; exact pw_below_drewN HB.out _⟩; have BR1 : Aside0 (w1.heap[w.heap.size]? = some (.cells #[.int .i64 0, .slice none 0 0] 35 (0, 0))) := ⟨by rw [hnd]; exact blk_drewN BR.out _⟩; clear hnd)
              | (go_at_call 77; refine (impl_isBreak.calls _ _ _ _ H2.out).mono ?_; rintro e w2 ⟨rfl, ⟨nd, hnd⟩⟩; have HB2 : Aside0 (Below w.heap.size w w2) := ⟨by rw [hnd]; exact pw_below_drewN HB1.out _⟩; have BR2 : Aside0 (w2.heap[w.heap.size]? = some (.cells #[.int .i64 0, .slice none 0 0] 35 (0, 0))) := ⟨by rw [hnd]; exact blk_drewN BR1.out _⟩; clear hnd)
              | (go_at_call 75; with_reducible refine (impl_within.calls _ _ _ _ _ H3.out).mono ?_; rintro e w3 ⟨rfl, ⟨nd, hnd⟩⟩; have HB3 : Aside0 (Below w.heap.size w w3) := ⟨by rw [hnd]; exact pw_below_drewN HB2.out _⟩; have BR3 : Aside0 (w3.heap[w.heap.size]? = some (.cells #[.int .i64 0, .slice none 0 0] 35 (0, 0))) := ⟨by rw [hnd]; exact blk_drewN BR2.out _⟩; clear hnd)
              | (go_at_call 75; with_reducible refine (impl_within.calls _ _ _ _ _ H4.out).mono ?_; rintro e w4 ⟨rfl, ⟨nd, hnd⟩⟩; have HB4 : Aside0 (Below w.heap.size w w4) := ⟨by rw [hnd]; exact pw_below_drewN HB3.out _⟩; have BR4 : Aside0 (w4.heap[w.heap.size]? = some (.cells #[.int .i64 0, .slice none 0 0] 35 (0, 0))) := ⟨by rw [hnd]; exact blk_drewN BR3.out _⟩; clear hnd; have c_0 := (blk_cell BR4.out 0).trans rfl; have c_1 := (blk_cell BR4.out 1).trans rfl; have f_0 := blk_frozen BR4.out 0; have f_1 := blk_frozen BR4.out 1))
            refine bodyPost_ret (results_ct rfl _ _ w.heap.size 35 #[.int .i64 0, .slice none 0 0] (0, 0) _ rfl (by refine blk_put (cs := #[.int .i64 0, .slice none 0 0]) ?_ 1 _ rfl; exact blk_put BR4.out 0 _ rfl) Try.underlying35 rfl (by kernel_rfl)) rfl ?_
            exact ⟨_, rfl, Kd.R_nil _ _ _ _ _, below_set (below_set HB4.out (Nat.le_refl _)) (Nat.le_refl _)⟩


end Go.Proofs.Ytbkplokoomodcaa.M
