/- Plain Lean functions with the answers of Go functions, and proofs of it: printed by a program of this session (pr.py) over the kit's print, with hand-written parts. -/
import Derived.Test.YtoomacelbhojhaaEx0
import Derived.Test.YtoomacelbhojhaaEx2
import Derived.Test.YtoomacelbhojhaaEx3
namespace Go.Proofs.Ytoomacelbhojhaa.E
open Go.RowKit Go.Proofs.YtoomacelbhojhaaW.PrintWords Go.Proofs.YtoomacelbhojhaaW.PrintLast Go.Proofs.YtoomacelbhojhaaW.PrintMore
attribute [local go_sem] max2_int min2_int max_two min_two max_three min_three max_four min_four   -- for this text's walks alone
set_option linter.unusedVariables false
set_option linter.unusedSimpArgs false

-- FOR (*impl.coster).floors
-- CALLS (*impl.coster).first ; impl.newCoster
-- USES info int
-- USES info []int

set_option maxHeartbeats 8000000 in
set_option maxRecDepth 1000000 in
theorem cfloors.calls (p : CP) (hp : p.Ok) (w : World) (b e n s : Nat) (hC : Cst w b p) (he : 1 ≤ e ∧ e ≤ 10 ∧ n ≤ 60 ∧ s ≤ 1) :
    Calls Try.prog 114 #[.pointer (some ⟨b, 0, none⟩), .int .i64 (e : Int), .int .i64 (n : Int), .int .i64 (s : Int)] w fun e_ w' => ∃ v, e_ = .returned v ∧ Kd.R (Kd.int .i64) 3 w' w.heap.size (fun _ => True) v (cFloors p e n s) ∧ Below w.heap.size w w' := by
  have HP := Aside0.mk hp
  have HC := Aside0.mk hC
  have HE := Aside0.mk he
  have zs1 := size127
  have zs2 := size126
  have e0' : ((0 : Int) ≤ (e : Int)) = True := eq_true (by omega)
  have e1' : ((e : Int) < 11) = True := eq_true (by omega)
  have n0' : ((0 : Int) ≤ (n : Int)) = True := eq_true (by omega)
  have n1' : ((n : Int) < 61) = True := eq_true (by omega)
  have s0' : ((0 : Int) ≤ (s : Int)) = True := eq_true (by omega)
  have s1' : ((s : Int) < 2) = True := eq_true (by omega)
  obtain ⟨c, hc⟩ : ∃ c, c = cst p e n s := ⟨_, rfl⟩
  obtain ⟨q, hq⟩ : ∃ q : Nat → Bool, q = fun f => decide (cFst p e n s f = cst p e n s) := ⟨_, rfl⟩
  have HQ := Aside0.mk (And.intro hc hq)
  unfold cFloors
  rw [← hq]
  clear hp hC he hc hq
  go_enter Try.func114, Try.ntmps114
  go_wp2
  go_loopg [9, 10] n (fun k v9 v10 w' => ∃ f : Nat, v10 = .int .i64 ((f : Int) + 1) ∧ Aside0 (f + k = n) ∧ Aside0 (Kd.R (Kd.int .i64) 3 w' w.heap.size (fun _ => True) v9 (flr q f)) ∧ Aside0 (Below w.heap.size w w'))
  case atStart => exact ⟨0, rfl, ⟨by omega⟩, ⟨Hw.R_empty _ _ _ _ _ (Nat.le_refl _) trivial⟩, ⟨by repeat (first | exact Below.refl _ _ | refine below_alloc ?_ _)⟩⟩
  case round =>
    obtain ⟨f0, rfl, HK, HO, HB⟩ := hrel
    by_cases hlf : f0 < n
    · obtain ⟨f, hf⟩ : ∃ f, f = f0 + 1 := ⟨_, rfl⟩
      have hf2 : (f0 : Int) + 1 = (f : Int) := by omega
      rw [hf2]
      have d4 : decide ((f : Int) ≤ (n : Int)) = true := decide_eq_true (by omega)
      have d6 : (f ≤ n) = True := eq_true (by omega)
      obtain ⟨x, hx⟩ : ∃ x, x = cFst p e n s f := ⟨_, rfl⟩
      obtain ⟨xs, hxs⟩ : ∃ xs, xs = flr q f0 := ⟨_, rfl⟩
      rw [← hxs] at HO
      have gc := (HC.out.below HB.out).get (n := n) (e := e) (s := s) (by have := HE.out; omega) (by have := HE.out; omega) (by have := HE.out; omega) (by have := HE.out; omega)
      rw [← HQ.out.1] at gc
      have FC : Aside0 (∀ W, Below w.heap.size w W → Calls Try.prog 113 #[.pointer (some ⟨b, 0, none⟩), .int .i64 (e : Int), .int .i64 (n : Int), .int .i64 (s : Int), .int .i64 (f : Int)] W fun e_ w' => e_ = .returned (.int .i64 x) ∧ Drawn0 W w') := ⟨by
        intro W hW
        have h_ := HC.out.below hW
        have l1 := HE.out
        rw [hx]
        exact first.calls W b p e n s f _ _ HP.out (by omega) ⟨cst_lo HP.out _ _ _, cst_hi _ _ _ _, cst_lo HP.out _ _ _, cst_hi _ _ _ _⟩ h_.pe.1 h_.pe.2.1 h_.pe.2.2 (h_.get (n := f - 1) (e := e - 1) (s := 1) (by omega) (by omega) (by omega) (by omega)) (h_.get (n := n - f) (e := e) (s := 0) (by omega) (by omega) (by omega) (by omega))⟩
      have HM := Aside0.mk (And.intro hx (And.intro hxs (And.intro hf hlf)))
      have wf : IntKind.i64.wrap ((f : Int) + 1) = (f : Int) + 1 := Hw.wrap_w (by omega) (by have := HM.out; have := HE.out; omega)
      clear hlf hf hf2 hx hxs
      go_upto_region 5 with fail
      refine start_ (n := 17) (S := fun w' => w'.cell? ⟨b, 3 + e * 122 + n * 2 + s, none⟩ = some (.int .i64 c)) (ds := []) #[false, false, false, false, false, false, false, false, false, false, false, false, false, false, false, false, false] (by kernel_rfl) rfl rfl (gc) (fun hHeld => ?_)
      refine pure_ (i := 0) (N := some 17) (v := ?_) (a' := ?_) #[true, false, false, false, false, false, false, false, false, false, false, false, false, false, false, false, false] rfl rfl (by kernel_rfl) (fun _ _ _ h => h) (Or.inl ⟨by rfl, ?_⟩) ?_ ?_
      rotate_left
      · intro w'
        go_simp
        with_reducible rfl
      rotate_left
      · simp only [Act.put, List.setIfInBounds_toArray, List.set_cons_zero, List.set_cons_succ, i64_w, i32_w]
        rfl
      refine pure_ (i := 1) (N := some 18) (v := ?_) (a' := ?_) #[true, true, false, false, false, false, false, false, false, false, false, false, false, false, false, false, false] rfl rfl (by kernel_rfl) (fun _ _ _ h => h) (Or.inl ⟨by rfl, ?_⟩) ?_ ?_
      rotate_left
      · intro w'
        go_simp
        with_reducible rfl
      rotate_left
      · simp only [Act.put, List.setIfInBounds_toArray, List.set_cons_zero, List.set_cons_succ, i64_w, i32_w]
        rfl
      refine pure_ (i := 2) (N := some 19) (v := ?_) (a' := ?_) #[true, true, true, false, false, false, false, false, false, false, false, false, false, false, false, false, false] rfl rfl (by kernel_rfl) (fun _ _ _ h => h) (Or.inl ⟨by rfl, ?_⟩) ?_ ?_
      rotate_left
      · intro w'
        go_simp
        with_reducible rfl
      rotate_left
      · simp only [Act.put, List.setIfInBounds_toArray, List.set_cons_zero, List.set_cons_succ, i64_w, i32_w]
        rfl
      refine pure_ (i := 3) (N := some 20) (v := ?_) (a' := ?_) #[true, true, true, true, false, false, false, false, false, false, false, false, false, false, false, false, false] rfl rfl (by kernel_rfl) (fun _ _ _ h => h) (Or.inl ⟨by rfl, ?_⟩) ?_ ?_
      rotate_left
      · intro w'
        go_simp
        with_reducible rfl
      rotate_left
      · simp only [Act.put, List.setIfInBounds_toArray, List.set_cons_zero, List.set_cons_succ, i64_w, i32_w]
        rfl
      refine pure_ (i := 4) (N := some 21) (v := ?_) (a' := ?_) #[true, true, true, true, true, false, false, false, false, false, false, false, false, false, false, false, false] rfl rfl (by kernel_rfl) (fun _ _ _ h => h) (Or.inl ⟨by rfl, ?_⟩) ?_ ?_
      rotate_left
      · intro w'
        go_simp
        with_reducible rfl
      rotate_left
      · simp only [Act.put, List.setIfInBounds_toArray, List.set_cons_zero, List.set_cons_succ, i64_w, i32_w]
        rfl
      refine pure_ (i := 6) (N := some 23) (v := ?_) (a' := ?_) #[true, true, true, true, true, false, true, false, false, false, false, false, false, false, false, false, false] rfl rfl (by kernel_rfl) (fun _ _ _ h => h) (Or.inl ⟨by rfl, ?_⟩) ?_ ?_
      rotate_left
      · intro w'
        go_simp
        with_reducible rfl
      rotate_left
      · simp only [Act.put, List.setIfInBounds_toArray, List.set_cons_zero, List.set_cons_succ, i64_w, i32_w]
        rfl
      refine pure_ (i := 7) (N := some 24) (v := ?_) (a' := ?_) #[true, true, true, true, true, false, true, true, false, false, false, false, false, false, false, false, false] rfl rfl (by kernel_rfl) (fun _ _ _ h => h) (Or.inl ⟨by rfl, ?_⟩) ?_ ?_
      rotate_left
      · intro w'
        go_simp
        with_reducible rfl
      rotate_left
      · simp only [Act.put, List.setIfInBounds_toArray, List.set_cons_zero, List.set_cons_succ, i64_w, i32_w]
        rfl
      refine pure_ (i := 8) (N := some 25) (v := ?_) (a' := ?_) #[true, true, true, true, true, false, true, true, true, false, false, false, false, false, false, false, false] rfl rfl (by kernel_rfl) (fun _ _ _ h => h) (Or.inl ⟨by rfl, ?_⟩) ?_ ?_
      rotate_left
      · intro w'
        go_simp
        with_reducible rfl
      rotate_left
      · simp only [Act.put, List.setIfInBounds_toArray, List.set_cons_zero, List.set_cons_succ, i64_w, i32_w]
        rfl
      refine pure_ (i := 9) (N := some 26) (v := ?_) (a' := ?_) #[true, true, true, true, true, false, true, true, true, true, false, false, false, false, false, false, false] rfl rfl (by kernel_rfl) (fun _ _ _ h => h) (Or.inl ⟨by rfl, ?_⟩) ?_ ?_
      rotate_left
      · intro w'
        go_simp
        with_reducible rfl
      rotate_left
      · simp only [Act.put, List.setIfInBounds_toArray, List.set_cons_zero, List.set_cons_succ, i64_w, i32_w]
        rfl
      refine pure_ (i := 10) (N := some 27) (v := ?_) (a' := ?_) #[true, true, true, true, true, false, true, true, true, true, true, false, false, false, false, false, false] rfl rfl (by kernel_rfl) (fun _ _ _ h => h) (Or.inl ⟨by rfl, ?_⟩) ?_ ?_
      rotate_left
      · intro w'
        go_simp
        with_reducible rfl
      rotate_left
      · simp only [Act.put, List.setIfInBounds_toArray, List.set_cons_zero, List.set_cons_succ, i64_w, i32_w]
        rfl
      refine pure_ (i := 11) (N := some 28) (v := ?_) (a' := ?_) #[true, true, true, true, true, false, true, true, true, true, true, true, false, false, false, false, false] rfl rfl (by kernel_rfl) (fun _ _ _ h => h) (Or.inl ⟨by rfl, ?_⟩) ?_ ?_
      rotate_left
      · intro w'
        go_simp
        with_reducible rfl
      rotate_left
      · simp only [Act.put, List.setIfInBounds_toArray, List.set_cons_zero, List.set_cons_succ, i64_w, i32_w]
        rfl
      refine pure_ (i := 12) (N := some 29) (v := ?_) (a' := ?_) #[true, true, true, true, true, false, true, true, true, true, true, true, true, false, false, false, false] rfl rfl (by kernel_rfl) (fun _ _ _ h => h) (Or.inl ⟨by rfl, ?_⟩) ?_ ?_
      rotate_left
      · intro w'
        go_simp
        with_reducible rfl
      rotate_left
      · simp only [Act.put, List.setIfInBounds_toArray, List.set_cons_zero, List.set_cons_succ, i64_w, i32_w]
        rfl
      refine pure_ (i := 13) (N := some 30) (v := ?_) (a' := ?_) #[true, true, true, true, true, false, true, true, true, true, true, true, true, true, false, false, false] rfl rfl (by kernel_rfl) (fun _ _ _ h => h) (Or.inl ⟨by rfl, ?_⟩) ?_ ?_
      rotate_left
      · intro w'
        go_simp
        with_reducible rfl
      rotate_left
      · simp only [Act.put, List.setIfInBounds_toArray, List.set_cons_zero, List.set_cons_succ, i64_w, i32_w]
        rfl
      refine pure_ (i := 14) (N := some 31) (v := ?_) (a' := ?_) #[true, true, true, true, true, false, true, true, true, true, true, true, true, true, true, false, false] rfl rfl (by kernel_rfl) (fun _ _ _ h => h) (Or.inl ⟨by rfl, ?_⟩) ?_ ?_
      rotate_left
      · intro w'
        go_simp
        with_reducible rfl
      rotate_left
      · simp only [Act.put, List.setIfInBounds_toArray, List.set_cons_zero, List.set_cons_succ, i64_w, i32_w]
        rfl
      refine take_ (i := 15) (N := some 32) (v := ?_) (a' := ?_) #[true, true, true, true, true, false, true, true, true, true, true, true, true, true, true, true, false] rfl rfl (by kernel_rfl) (fun _ _ _ h => h) (Or.inl ⟨by rfl, ?_⟩) hHeld ?_ ?_
      rotate_left
      · intro w' s0
        go_simp
        with_reducible rfl
      rotate_left
      · simp only [Act.put, List.setIfInBounds_toArray, List.set_cons_zero, List.set_cons_succ, i64_w, i32_w]
        rfl
      refine one_ (i := 5) (N := some 22) #[true, true, true, true, true, true, true, true, true, true, true, true, true, true, true, true, false] rfl rfl (by kernel_rfl) (by decide) (fun K hK => ?_)
      refine goes_ Try.func113 (by kernel_rfl) rfl #[.pointer (some ⟨b, 0, none⟩), .int .i64 (e : Int), .int .i64 (n : Int), .int .i64 (s : Int), .int .i64 (f : Int)] (by rfl) rfl rfl (by simp only [List.map_toArray, List.map_cons, List.map_nil]; rfl) ?_
      with_reducible refine (FC.out _ (below_drew1 HB.out)).mono ?_
      rintro e_ w_1 ⟨rfl, hd_⟩
      refine ⟨_, rfl, ?_⟩
      have HD := Aside0.mk (Hx.undrew hd_.below)
      clear hd_
      have hB := Hx.bb_below HD.out HB.out
      have hO := Kd.R_below HO.out HD.out
      clear HO HB
      have HB := Aside0.mk hB
      have HO := Aside0.mk hO
      clear hB hO
      refine hK.out _ _ (pw_cell_below HD.out gc) (fun hHeld => ?_)
      clear hK K
      refine norm_ (a' := ?_) ?_ ?_
      rotate_left
      · show Act.put _ (some 22) _ = _
        simp only [Act.put, List.setIfInBounds_toArray, List.set_cons_zero, List.set_cons_succ, i64_w, i32_w]
        rfl
      refine pure_ (i := 16) (N := some 33) (v := ?_) (a' := ?_) #[true, true, true, true, true, true, true, true, true, true, true, true, true, true, true, true, true] rfl rfl (by kernel_rfl) (fun _ _ _ h => h) (Or.inl ⟨by rfl, ?_⟩) ?_ ?_
      rotate_left
      · intro w'
        go_simp
        with_reducible rfl
      rotate_left
      · simp only [Act.put, List.setIfInBounds_toArray, List.set_cons_zero, List.set_cons_succ, i64_w, i32_w]
        rfl
      refine done_ (by kernel_rfl) ?_
      by_cases hxc : x = c
      · have hxb : (x == c) = true := by rw [hxc]; simp
        have hqf : q f = true := by rw [HQ.out.2]; exact decide_eq_true (by rw [← HM.out.1, ← HQ.out.1]; exact hxc)
        obtain ⟨y, hy⟩ : ∃ y, y = xs ++ [(f : Int)] := ⟨_, rfl⟩
        have Ny := Aside0.mk hy
        have HF : Aside0 (flr q f = y) := ⟨by rw [hy, HM.out.2.2.1, flr, if_pos (by rw [← HM.out.2.2.1]; exact hqf), ← HM.out.2.1]⟩
        have HX := Aside0.mk hxc
        clear hxc hqf hy
        go_wp2_with (first | ((with_reducible refine gate_builtin (b := .append) (xs := #[.tmp 34, .tmp 36]) rfl ?_); at_builtin; refine Kd.R_append (Kd.int .i64) (w0 := w) w.heap.size rfl (.tmp 34) (.tmp 36) 46 3 (.int .i64 0) 8 rfl Try.underlying46 info3 rfl (by decide) (by omega) u9 xs (f : Int) [.int .i64 ((f : Int))] (fun _ => True) (fun _ => False) rfl rfl ?aP (fun _ hk => hk.elim) ?aF ?aO ?aB ?aS ?aL ?_; (case aP => exact rfl); (case aB => exact (by repeat (first | (with_reducible first | exact HB.out | apply below_alloc | apply pw_below_drewN | apply below_drew1) | exact HB.out))); (case aF => exact (fun _ _ => trivial)); (case aO => exact (by (with_reducible repeat (first | apply Kd.R_alloc | apply Kd.R_drewN | apply Kd.R_drew)); exact HO.out)); (case aS => exact (below_size (by repeat (first | (with_reducible first | exact HB.out | apply below_alloc | apply pw_below_drewN | apply below_drew1) | exact HB.out)))); (case aL => have := HM.out; have h_ := flr_len q f0; rw [← HM.out.2.1] at h_; have := HE.out; omega); intro v2_ w_2 ho hb hg hat; rw [← Ny.out] at ho; clear HB HO; have HB := Aside0.mk hb; have HO := Aside0.mk ho; clear ho hb hg hat))
        go_roundg (n - f)
        case measure => have := HK.out; have := HM.out; omega
        case rel => exact ⟨f, rfl, ⟨by have := HK.out; have := HM.out; omega⟩, ⟨by rw [HF.out]; exact HO.out⟩, HB⟩
      · have hxb : (x == c) = false := by simpa using hxc
        have hqf : q f = false := by rw [HQ.out.2]; exact decide_eq_false (by rw [← HM.out.1, ← HQ.out.1]; exact hxc)
        have HF : Aside0 (flr q f = xs) := ⟨by rw [HM.out.2.2.1, flr, if_neg (by rw [← HM.out.2.2.1, hqf]; decide), ← HM.out.2.1, List.append_nil]⟩
        have HX := Aside0.mk hxc
        clear hxc hqf
        go_wp2
        go_roundg (n - f)
        case measure => have := HK.out; have := HM.out; omega
        case rel => exact ⟨f, rfl, ⟨by have := HK.out; have := HM.out; omega⟩, ⟨by rw [HF.out]; exact HO.out⟩, HB⟩
    · have d4 : decide ((f0 : Int) + 1 ≤ (n : Int)) = false := decide_eq_false (by omega)
      have d6 : ((f0 : Int) + 1 ≤ (n : Int)) = False := eq_false (by omega)
      have HF : Aside0 (flr q f0 = flr q n) := ⟨by rw [show f0 = n by have := HK.out; omega]⟩
      clear hlf
      go_wp2
      go_ret
      exact ⟨_, rfl, by rw [← HF.out]; exact HO.out, HB.out⟩


-- FOR (*impl.coster).drops
-- CALLS (*impl.coster).floors ; impl.newCoster
-- USES kd impl.Drop
-- USES info impl.Drop
-- USES info int

set_option maxHeartbeats 8000000 in
set_option maxRecDepth 1000000 in
theorem cdrops.calls (p : CP) (hp : p.Ok) (w : World) (b e0 n0 : Nat) (br : Int) (hC : Cst w b p) (he : 1 ≤ e0 ∧ e0 ≤ 10 ∧ n0 ≤ 60) :
    Calls Try.prog 74 #[.pointer (some ⟨b, 0, none⟩), .int .i64 (e0 : Int), .int .i64 (n0 : Int), .int .i64 br] w fun e_ w' => ∃ v, e_ = .returned v ∧ Kd.R k89 89 w' w.heap.size (fun _ => True) v (cDrops p br n0 e0 n0 0 0) ∧ Below w.heap.size w w' := by
  have hu := Try.underlying89
  have HP := Aside0.mk hp
  have HC := Aside0.mk hC
  have HE := Aside0.mk he
  clear hp hC he
  go_enter Try.func74, Try.ntmps74
  go_wp2
  go_loopg [1, 2, 9, 10, 11] n0 (fun k v1 v2 v9 v10 v11 w' => ∃ (e n lo s : Nat) (xs : List S89), v1 = .int .i64 (e : Int) ∧ v2 = .int .i64 (n : Int) ∧ v10 = .int .i64 (lo : Int) ∧ v11 = .int .i64 (s : Int) ∧ Aside0 (n ≤ k ∧ k ≤ n0 ∧ lo + n ≤ n0 ∧ (1 ≤ e ∨ n = 0) ∧ e ≤ 10 ∧ s ≤ 1 ∧ xs.length + k ≤ n0) ∧ Aside0 (xs ++ cDrops p br k e n lo s = cDrops p br n0 e0 n0 0 0) ∧ Aside0 (Kd.R k89 89 w' w.heap.size (fun _ => True) v9 xs) ∧ Aside0 (Below w.heap.size w w'))
  case atStart => exact ⟨e0, n0, 0, 0, [], rfl, rfl, rfl, rfl, ⟨by have := HE.out; simp; omega⟩, ⟨rfl⟩, ⟨Hw.R_empty _ _ _ _ _ (Nat.le_refl _) trivial⟩, ⟨by repeat (first | exact Below.refl _ _ | refine below_alloc ?_ _)⟩⟩
  case round =>
    obtain ⟨e, n, lo, s, xs, rfl, rfl, rfl, rfl, HK, HL, HO, HB⟩ := hrel
    by_cases hlt : 0 < n
    · have d1 : decide ((0 : Int) < (n : Int)) = true := decide_eq_true (by omega)
      have d1' : (0 < n) = True := eq_true hlt
      obtain ⟨k1, rfl⟩ : ∃ k1, gk = k1 + 1 := ⟨gk - 1, by have := HK.out; omega⟩
      obtain ⟨r, hr, hf1, hf2, hf3⟩ := cFloors_is HP.out (e := e) (n := n) s (by have := HK.out; omega) hlt (by have := HK.out; have := HE.out; omega)
      have hL := HL.out
      rw [cDrops, if_neg (by omega)] at hL
      obtain ⟨f, hf⟩ : ∃ f, f = cHead p e n s := ⟨_, rfl⟩
      rw [← hf] at hr hf1 hf2 hf3 hL
      obtain ⟨z, hz⟩ : ∃ z : Int, z = (lo : Int) + f := ⟨_, rfl⟩
      have hz2 : ((lo + f : Nat) : Int) = z := by omega
      rw [hz2] at hL
      have w1 : IntKind.i64.wrap ((lo : Int) + f) = z := by rw [hz]; exact Hw.wrap_w (by omega) (by have := HK.out; have := HE.out; omega)
      have w2 : IntKind.i64.wrap ((n : Int) - f) = ((n - f : Nat) : Int) := (Hw.wrap_w (by omega) (by have := HK.out; have := HE.out; omega)).trans (by omega)
      have w3 : IntKind.i64.wrap ((f : Int) - 1) = ((f - 1 : Nat) : Int) := (Hw.wrap_w (by omega) (by have := HK.out; have := HE.out; omega)).trans (by omega)
      have w4 : IntKind.i64.wrap ((e : Int) - 1) = ((e - 1 : Nat) : Int) := (Hw.wrap_w (by omega) (by have := HK.out; have := HE.out; omega)).trans (by have := HK.out; omega)
      have FR := Aside0.mk hr
      have FC : Aside0 (∀ W, Below w.heap.size w W → Calls Try.prog 114 #[.pointer (some ⟨b, 0, none⟩), .int .i64 (e : Int), .int .i64 (n : Int), .int .i64 (s : Int)] W fun e_ w' => ∃ v, e_ = .returned v ∧ Kd.R (Kd.int .i64) 3 w' W.heap.size (fun _ => True) v (cFloors p e n s) ∧ Below W.heap.size W w') := ⟨fun W hW => cfloors.calls p HP.out W b e n s (HC.out.below hW) (by have := HK.out; have := HE.out; omega)⟩
      have HF := Aside0.mk (And.intro hf1 (And.intro hf2 (And.intro hf3 (And.intro hz hlt))))
      obtain ⟨y, hy⟩ : ∃ y : List S89, y = xs ++ [⟨z, decide (br < z)⟩] := ⟨_, rfl⟩
      have Ny := Aside0.mk hy
      have HL2 : Aside0 (y ++ (if br < z then cDrops p br k1 (e - 1) (f - 1) lo 1 else cDrops p br k1 e (n - f) (lo + f) 0) = cDrops p br n0 e0 n0 0 0) := ⟨by rw [← hL, hy]; simp⟩
      clear HL hr hL hf hf1 hf2 hf3 hz hlt hy
      by_cases hc : br < z
      · have d2 : decide (br < z) = true := decide_eq_true hc
        rw [if_pos hc] at HL2
        rw [d2] at Ny
        have HX := Aside0.mk hc
        clear hc
        go_wp2_with (first | ((with_reducible refine gate_callee (f := 114) rfl ?_); refine goesL_ (some 21) rfl rfl Try.func114 (by kernel_rfl) rfl #[.pointer (some ⟨b, 0, none⟩), .int .i64 (e : Int), .int .i64 (n : Int), .int .i64 (s : Int)] rfl (by (try simp only [List.map_toArray, List.map_cons, List.map_nil]); first | done | rfl) ?_; refine (FC.out _ HB.out).mono ?_; rintro e_ w_1 ⟨v1_, rfl, hr_, hb_⟩; refine ⟨_, rfl, ?_⟩; have ho_ := Kd.R_below HO.out hb_; have hB := Hx.bb_below hb_ HB.out; clear HO HB; have HO := Aside0.mk ho_; have HB := Aside0.mk hB; rw [FR.out] at hr_; obtain ⟨g1_, cap1_, ev_, hg1_, hg2_, _⟩ := Kd.R_form hr_ (by simp); subst ev_; obtain ⟨c1_, c2_⟩ := Kd.R_celln 0 hr_ 0 (by omega) (by simp); simp only [Int.toNat_zero] at c1_ c2_; replace c1_ := c1_.trans (show _ = some (Value.int .i64 (f : Int)) from rfl); clear ho_ hB hb_ hr_) | ((with_reducible refine gate_builtin (b := .append) (xs := #[.tmp 33, .tmp 35]) rfl ?_); at_builtin; rw [show w_1.heap.size + 1 = (w_1.alloc (.cells #[.int .i64 z, .bool true] 89 (0, 0))).heap.size from (Array.size_push _).symm]; refine Kd.R_append k89 (w0 := w) w.heap.size rfl (.tmp 33) (.tmp 35) 38 89 (.agg #[(.int .i64 0), (.bool false)]) 16 rfl Try.underlying38 info89 rfl (by decide) (by omega) u9 xs (⟨z, true⟩ : S89) [.int .i64 z, .bool true] (fun _ => True) (fun _ => False) rfl rfl ?aP (fun _ hk => hk.elim) ?aF ?aO ?aB ?aS ?aL ?_; (case aP => exact k89_mkM _ _ _ (⟨z, true⟩ : S89)); (case aB => exact (by repeat (first | (with_reducible first | exact HB.out | apply below_alloc | apply pw_below_drewN | apply below_drew1) | exact HB.out))); (case aF => exact (fun _ _ => trivial)); (case aO => exact (by (with_reducible repeat (first | apply Kd.R_alloc | apply Kd.R_drewN | apply Kd.R_drew)); exact HO.out)); (case aS => exact (below_size (by repeat (first | (with_reducible first | exact HB.out | apply below_alloc | apply pw_below_drewN | apply below_drew1) | exact HB.out)))); (case aL => have := HK.out; have := HE.out; omega); intro v2_ w_2 ho hb hg hat; have bD := blk_grown (blk_new w_1 (.cells #[.int .i64 z, .bool true] 89 (0, 0))) hg (fun h_ => by have h2_ := Kd.R_lt HO.out _ h_.symm; omega); have cD1 : w_2.cell? ⟨w_1.heap.size, 1, none⟩ = some (.bool true) := (blk_cell bD 1).trans rfl; clear bD; rw [← Ny.out] at ho; clear HB HO; have HB := Aside0.mk hb; have HO := Aside0.mk ho; clear ho hb hg hat))
        go_roundg k1
        case measure => omega
        case rel => exact ⟨e - 1, f - 1, lo, 1, y, rfl, rfl, rfl, rfl, ⟨by have := HK.out; have := HF.out; have h_ : y.length = xs.length + 1 := (by rw [Ny.out]; simp); omega⟩, HL2, HO, HB⟩
      · have d2 : decide (br < z) = false := decide_eq_false hc
        rw [if_neg hc] at HL2
        rw [d2] at Ny
        have HX := Aside0.mk hc
        clear hc
        go_wp2_with (first | ((with_reducible refine gate_callee (f := 114) rfl ?_); refine goesL_ (some 21) rfl rfl Try.func114 (by kernel_rfl) rfl #[.pointer (some ⟨b, 0, none⟩), .int .i64 (e : Int), .int .i64 (n : Int), .int .i64 (s : Int)] rfl (by (try simp only [List.map_toArray, List.map_cons, List.map_nil]); first | done | rfl) ?_; refine (FC.out _ HB.out).mono ?_; rintro e_ w_1 ⟨v1_, rfl, hr_, hb_⟩; refine ⟨_, rfl, ?_⟩; have ho_ := Kd.R_below HO.out hb_; have hB := Hx.bb_below hb_ HB.out; clear HO HB; have HO := Aside0.mk ho_; have HB := Aside0.mk hB; rw [FR.out] at hr_; obtain ⟨g1_, cap1_, ev_, hg1_, hg2_, _⟩ := Kd.R_form hr_ (by simp); subst ev_; obtain ⟨c1_, c2_⟩ := Kd.R_celln 0 hr_ 0 (by omega) (by simp); simp only [Int.toNat_zero] at c1_ c2_; replace c1_ := c1_.trans (show _ = some (Value.int .i64 (f : Int)) from rfl); clear ho_ hB hb_ hr_) | ((with_reducible refine gate_builtin (b := .append) (xs := #[.tmp 33, .tmp 35]) rfl ?_); at_builtin; rw [show w_1.heap.size + 1 = (w_1.alloc (.cells #[.int .i64 z, .bool false] 89 (0, 0))).heap.size from (Array.size_push _).symm]; refine Kd.R_append k89 (w0 := w) w.heap.size rfl (.tmp 33) (.tmp 35) 38 89 (.agg #[(.int .i64 0), (.bool false)]) 16 rfl Try.underlying38 info89 rfl (by decide) (by omega) u9 xs (⟨z, false⟩ : S89) [.int .i64 z, .bool false] (fun _ => True) (fun _ => False) rfl rfl ?aP (fun _ hk => hk.elim) ?aF ?aO ?aB ?aS ?aL ?_; (case aP => exact k89_mkM _ _ _ (⟨z, false⟩ : S89)); (case aB => exact (by repeat (first | (with_reducible first | exact HB.out | apply below_alloc | apply pw_below_drewN | apply below_drew1) | exact HB.out))); (case aF => exact (fun _ _ => trivial)); (case aO => exact (by (with_reducible repeat (first | apply Kd.R_alloc | apply Kd.R_drewN | apply Kd.R_drew)); exact HO.out)); (case aS => exact (below_size (by repeat (first | (with_reducible first | exact HB.out | apply below_alloc | apply pw_below_drewN | apply below_drew1) | exact HB.out)))); (case aL => have := HK.out; have := HE.out; omega); intro v2_ w_2 ho hb hg hat; have bD := blk_grown (blk_new w_1 (.cells #[.int .i64 z, .bool false] 89 (0, 0))) hg (fun h_ => by have h2_ := Kd.R_lt HO.out _ h_.symm; omega); have cD1 : w_2.cell? ⟨w_1.heap.size, 1, none⟩ = some (.bool false) := (blk_cell bD 1).trans rfl; clear bD; rw [← Ny.out] at ho; clear HB HO; have HB := Aside0.mk hb; have HO := Aside0.mk ho; clear ho hb hg hat))
        go_roundg k1
        case measure => omega
        case rel => exact ⟨e, n - f, lo + f, 0, y, rfl, rfl, by rw [show ((lo + f : Nat) : Int) = z by have := HF.out; omega], rfl, ⟨by have := HK.out; have := HF.out; have h_ : y.length = xs.length + 1 := (by rw [Ny.out]; simp); omega⟩, HL2, HO, HB⟩
    · have d1 : decide ((0 : Int) < (n : Int)) = false := decide_eq_false (by omega)
      have d1' : (0 < n) = False := eq_false hlt
      have HL2 : Aside0 (xs = cDrops p br n0 e0 n0 0 0) := ⟨by
        rw [← HL.out, show n = 0 by omega]
        cases gk <;> simp [cDrops]⟩
      clear hlt
      go_wp2
      go_ret
      exact ⟨_, rfl, by rw [← HL2.out]; exact HO.out, HB.out⟩


/-! ### spec_flBroken: function 115 -/
def spec_flBroken.l0 : Nat → Int → List (S89) → Int → Int → Option (Int)
  | 0, _, _, _, _ => none
  | k + 1, x3, x6, x7, x8 => if x8 < x7 then (if 0 ≤ x8 then (if x8 < (x6.length : Int) then (if (rd_T89 x6 x8).f1 = true then (spec_flBroken.l0 k (wrap64 (x3 + 1)) x6 x7 (wrap64 (x8 + 1))) else (spec_flBroken.l0 k x3 x6 x7 (wrap64 (x8 + 1)))) else (none)) else (none)) else (some x3)
def spec_flBroken.f (k : Nat) (l0 : List (S89)) : Option (Int) := spec_flBroken.l0 k 0 l0 (l0.length : Int) 0
theorem spec_flBroken.mono_l : ∀ k, (∀ y0 y1 y2 y3, LeO (spec_flBroken.l0 k y0 y1 y2 y3) (spec_flBroken.l0 (k + 1) y0 y1 y2 y3))
  | 0 => fun _ _ _ _ r h => by simp [spec_flBroken.l0] at h
  | k + 1 => by
    have ih0 := spec_flBroken.mono_l k
    · intro y0 y1 y2 y3
      unfold spec_flBroken.l0
      repeat' first
      | (with_reducible exact ih0 _ _ _ _)
      | (with_reducible exact LeO.refl _)
      | (with_reducible exact LeO.none _)
      | (with_reducible refine LeO.ite ?_ ?_)
      | (with_reducible refine LeO.bind ?_ (fun _ => ?_))
      | exact ih0 _ _ _ _
      | exact LeO.none _
      | refine LeO.ite ?_ ?_
      | refine LeO.bind ?_ (fun _ => ?_)
theorem spec_flBroken.mono : ∀ a0 k, LeO (spec_flBroken.f k a0) (spec_flBroken.f (k + 1) a0) := by
  intro a0 k
  have ih0 := spec_flBroken.mono_l k
  unfold spec_flBroken.f
  repeat' first
      | (with_reducible exact ih0 _ _ _ _)
      | (with_reducible exact LeO.refl _)
      | (with_reducible exact LeO.none _)
      | (with_reducible refine LeO.ite ?_ ?_)
      | (with_reducible refine LeO.bind ?_ (fun _ => ?_))
      | exact ih0 _ _ _ _
      | exact LeO.none _
      | refine LeO.ite ?_ ?_
      | refine LeO.bind ?_ (fun _ => ?_)
set_option maxHeartbeats 8000000 in
set_option maxRecDepth 100000 in
theorem spec_flBroken.calls (k : Nat) (A0 : Option Addr) (c0 : Nat) (l0 : List (S89)) (r : Int) (w : World) (hr0 : Kd.C k89 w A0 l0.length l0) (hc0 : l0.length ≤ c0) (h : spec_flBroken.f k l0 = some r) :
    Calls Try.prog 115 #[.slice A0 l0.length c0] w fun e w' => e = .returned (.int .i64 r) ∧ Below w.heap.size w w' := by
  have hu89 := Try.underlying89
  have HR0 := Aside0.mk hr0
  have HC0 := Aside0.mk hc0
  clear hr0 hc0
  have HB := Aside0.mk (Below.refl w.heap.size w)
  have H : (spec_flBroken.l0 k 0 l0 (l0.length : Int) 0) = some r := h
  clear h
  have H' := Aside0.mk H
  clear H
  go_enter Try.func115, Try.ntmps115
  go_wp2
  go_loopg [3, 8] k (fun kq v3 v8 w' => ∃ (x3_1 : Int) (x8_1 : Int), v3 = .int .i64 x3_1 ∧ v8 = .int .i64 x8_1 ∧ Aside0 (spec_flBroken.l0 kq x3_1 l0 (l0.length : Int) x8_1 = some r) ∧ Aside0 (kq ≤ k) ∧ Aside0 (Below w.heap.size w w'))
  case atStart => exact ⟨(0), (0), (by first | rfl | (simp; done) | (simp [*]; done)), (by first | rfl | (simp; done) | (simp [*]; done)), H', ⟨Nat.le_refl _⟩, ⟨by repeat (first | (with_reducible first | exact HB.out | apply below_alloc | apply pw_below_drewN | apply below_drew1) | exact HB.out)⟩⟩
  case round =>
    clear H'
    try clear c1
    obtain ⟨x3_1, x8_1, rfl, rfl, HA, HK1, HB⟩ := hrel
    cases gk with
    | zero => exact absurd HA.out (by simp [spec_flBroken.l0])
    | succ k1 =>
      have H := HA.out
      clear HA
      simp only [spec_flBroken.l0] at H
      by_cases c2 : x8_1 < (l0.length : Int)
      · rw [if_pos c2] at H
        have c2b0 : decide (x8_1 < (l0.length : Int)) = true := decide_eq_true c2
        clear c2
        by_cases c3 : 0 ≤ x8_1
        · rw [if_pos c3] at H
          have c3b0 : decide (0 ≤ x8_1) = true := decide_eq_true c3
          clear c3
          by_cases c4 : x8_1 < (l0.length : Int)
          · rw [if_pos c4] at H
            have c4b0 : decide (x8_1 < (l0.length : Int)) = true := decide_eq_true c4
            clear c4
            obtain ⟨bq5, hbq5⟩ : ∃ b_ : Bool, b_ = ((rd_T89 l0 x8_1).f1) := ⟨_, rfl⟩
            replace H : (if bq5 = true then (spec_flBroken.l0 k1 (wrap64 (x3_1 + 1)) l0 (l0.length : Int) (wrap64 (x8_1 + 1))) else (spec_flBroken.l0 k1 x3_1 l0 (l0.length : Int) (wrap64 (x8_1 + 1)))) = some r := by rw [← hbq5] at H; exact H
            have Nbq5 := Aside0.mk hbq5
            clear hbq5
            by_cases c6 : bq5 = true
            · subst c6
              have H1 : (spec_flBroken.l0 k1 (wrap64 (x3_1 + 1)) l0 (l0.length : Int) (wrap64 (x8_1 + 1))) = some r := by rw [if_pos rfl] at H; exact H
              clear H
              have H := H1
              clear H1
              have H' := Aside0.mk H
              clear H
              have p127 : 0 ≤ (x8_1 : Int) := of_decide_eq_true (by first | (with_reducible assumption) | assumption)
              have q127 : x8_1 < (l0.length : Int) := of_decide_eq_true (by first | (with_reducible assumption) | assumption)
              obtain ⟨ad127, e127, hx127_0, hx127_1⟩ := at_T89 HR0.out x8_1 p127 q127
              (try rw [← Nbq5.out] at hx127_1)
              cases e127
              replace hx127_0 := (HB.out.cell (World.block_lt_of_cell? w _ hx127_0)).trans hx127_0
              replace hx127_1 := (HB.out.cell (World.block_lt_of_cell? w _ hx127_1)).trans hx127_1
              replace p127 := eq_true p127
              replace q127 := eq_true q127
              go_wp2_with (first | ((with_reducible refine gate_dst (N := 5) rfl ?_); refine box_event ?hg (N := 5) ?hd (cs := #[.int .i64 0, .bool false]) (t := 89) ?hr ?_; (case hd => rfl); (case hg => rfl); (case hr => first | (go_simp; done) | (go_simp; rfl)); intro gb128 hg w7 hbox hb; have n0_ := Aside0.mk (below_step (by repeat (first | (with_reducible first | exact HB.out | apply below_alloc | apply pw_below_drewN | apply below_drew1) | exact HB.out)) hb); have n1_ := Aside0.mk (hbox); have n2_ := Aside0.mk ((by rw [hg]; exact (below_size (by repeat (first | (with_reducible first | exact HB.out | apply below_alloc | apply pw_below_drewN | apply below_drew1) | exact HB.out))) : w.heap.size ≤ gb128)); have n3_ := Aside0.mk ((by rw [hg]; exact (below_size (by repeat (first | (with_reducible first | exact HB.out | apply below_alloc | apply pw_below_drewN | apply below_drew1) | exact HB.out))) : w.heap.size ≤ gb128)); clear HB; have HB := n0_; have BK128 := n1_; have GW128 := n2_; have GE128 := n3_; clear n0_ n1_ n2_ n3_; clear hb hbox hg; have hcz8_0 : w7.cell? ⟨gb128, 0, none⟩ = some (.int .i64 0) := (blk_cell BK128.out 0).trans rfl; have hcz8_1 : w7.cell? ⟨gb128, 1, none⟩ = some (.bool false) := (blk_cell BK128.out 1).trans rfl; have hfz8_0 := blk_frozen BK128.out 0; have hfz8_1 := blk_frozen BK128.out 1))
              go_roundg k1
              case measure => have := HK1.out; omega
              case rel => exact ⟨(wrap64 (x3_1 + 1)), (wrap64 (x8_1 + 1)), (by first | rfl | (simp; done) | (simp [*]; done)), (by first | rfl | (simp; done) | (simp [*]; done)), H', ⟨by have := HK1.out; omega⟩, ⟨by repeat (first | (with_reducible first | exact HB.out | apply below_alloc | apply pw_below_drewN | apply below_drew1 | refine below_set ?_ GE128.out) | exact HB.out)⟩⟩
            · replace c6 := Bool.eq_false_iff.mpr c6
              subst c6
              have H1 : (spec_flBroken.l0 k1 x3_1 l0 (l0.length : Int) (wrap64 (x8_1 + 1))) = some r := by rw [if_neg (show ¬ (false = true) by decide)] at H; exact H
              clear H
              have H := H1
              clear H1
              have H' := Aside0.mk H
              clear H
              have p127 : 0 ≤ (x8_1 : Int) := of_decide_eq_true (by first | (with_reducible assumption) | assumption)
              have q127 : x8_1 < (l0.length : Int) := of_decide_eq_true (by first | (with_reducible assumption) | assumption)
              obtain ⟨ad127, e127, hx127_0, hx127_1⟩ := at_T89 HR0.out x8_1 p127 q127
              (try rw [← Nbq5.out] at hx127_1)
              cases e127
              replace hx127_0 := (HB.out.cell (World.block_lt_of_cell? w _ hx127_0)).trans hx127_0
              replace hx127_1 := (HB.out.cell (World.block_lt_of_cell? w _ hx127_1)).trans hx127_1
              replace p127 := eq_true p127
              replace q127 := eq_true q127
              go_wp2_with (first | ((with_reducible refine gate_dst (N := 5) rfl ?_); refine box_event ?hg (N := 5) ?hd (cs := #[.int .i64 0, .bool false]) (t := 89) ?hr ?_; (case hd => rfl); (case hg => rfl); (case hr => first | (go_simp; done) | (go_simp; rfl)); intro gb128 hg w9 hbox hb; have n0_ := Aside0.mk (below_step (by repeat (first | (with_reducible first | exact HB.out | apply below_alloc | apply pw_below_drewN | apply below_drew1) | exact HB.out)) hb); have n1_ := Aside0.mk (hbox); have n2_ := Aside0.mk ((by rw [hg]; exact (below_size (by repeat (first | (with_reducible first | exact HB.out | apply below_alloc | apply pw_below_drewN | apply below_drew1) | exact HB.out))) : w.heap.size ≤ gb128)); have n3_ := Aside0.mk ((by rw [hg]; exact (below_size (by repeat (first | (with_reducible first | exact HB.out | apply below_alloc | apply pw_below_drewN | apply below_drew1) | exact HB.out))) : w.heap.size ≤ gb128)); clear HB; have HB := n0_; have BK128 := n1_; have GW128 := n2_; have GE128 := n3_; clear n0_ n1_ n2_ n3_; clear hb hbox hg; have hcz10_0 : w9.cell? ⟨gb128, 0, none⟩ = some (.int .i64 0) := (blk_cell BK128.out 0).trans rfl; have hcz10_1 : w9.cell? ⟨gb128, 1, none⟩ = some (.bool false) := (blk_cell BK128.out 1).trans rfl; have hfz10_0 := blk_frozen BK128.out 0; have hfz10_1 := blk_frozen BK128.out 1))
              go_roundg k1
              case measure => have := HK1.out; omega
              case rel => exact ⟨(x3_1), (wrap64 (x8_1 + 1)), (by first | rfl | (simp; done) | (simp [*]; done)), (by first | rfl | (simp; done) | (simp [*]; done)), H', ⟨by have := HK1.out; omega⟩, ⟨by repeat (first | (with_reducible first | exact HB.out | apply below_alloc | apply pw_below_drewN | apply below_drew1 | refine below_set ?_ GE128.out) | exact HB.out)⟩⟩
          · rw [if_neg c4] at H
            exact absurd H (by simp)
        · rw [if_neg c3] at H
          exact absurd H (by simp)
      · rw [if_neg c2] at H
        have c2b0 : decide (x8_1 < (l0.length : Int)) = false := decide_eq_false c2
        clear c2
        obtain rfl := Option.some.inj H
        go_wp2
        go_ret
        exact ⟨by first | rfl | (simp [errW_none, errW_some] <;> rfl) | (simp [*, errW_none, errW_some] <;> rfl), by repeat (first | (with_reducible first | exact HB.out | apply below_alloc | apply pw_below_drewN | apply below_drew1) | exact HB.out)⟩

/-! ### spec_csClimbs: function 116 -/
def spec_csClimbs.l0 : Nat → Int → Int → List (S89) → Int → Int → Option (Int)
  | 0, _, _, _, _, _ => none
  | k + 1, x3, x4, x7, x8, x9 => if x9 < x8 then (if 0 ≤ x9 then (if x9 < (x7.length : Int) then ((spec_l1Abs.f (wrap64 (((rd_T89 x7 x9).f0) - x4))).bind fun t131 => (spec_csClimbs.l0 k (wrap64 (x3 + t131)) ((rd_T89 x7 x9).f0) x7 x8 (wrap64 (x9 + 1)))) else (none)) else (none)) else (some x3)
def spec_csClimbs.f (k : Nat) (l0 : List (S89)) : Option (Int) := spec_csClimbs.l0 k 0 0 l0 (l0.length : Int) 0
theorem spec_csClimbs.mono_l : ∀ k, (∀ y0 y1 y2 y3 y4, LeO (spec_csClimbs.l0 k y0 y1 y2 y3 y4) (spec_csClimbs.l0 (k + 1) y0 y1 y2 y3 y4))
  | 0 => fun _ _ _ _ _ r h => by simp [spec_csClimbs.l0] at h
  | k + 1 => by
    have ih0 := spec_csClimbs.mono_l k
    · intro y0 y1 y2 y3 y4
      unfold spec_csClimbs.l0
      repeat' first
      | (with_reducible exact ih0 _ _ _ _ _)
      | (with_reducible exact LeO.refl _)
      | (with_reducible exact LeO.none _)
      | (with_reducible refine LeO.ite ?_ ?_)
      | (with_reducible refine LeO.bind ?_ (fun _ => ?_))
      | exact ih0 _ _ _ _ _
      | exact LeO.none _
      | refine LeO.ite ?_ ?_
      | refine LeO.bind ?_ (fun _ => ?_)
theorem spec_csClimbs.mono : ∀ a0 k, LeO (spec_csClimbs.f k a0) (spec_csClimbs.f (k + 1) a0) := by
  intro a0 k
  have ih0 := spec_csClimbs.mono_l k
  unfold spec_csClimbs.f
  repeat' first
      | (with_reducible exact ih0 _ _ _ _ _)
      | (with_reducible exact LeO.refl _)
      | (with_reducible exact LeO.none _)
      | (with_reducible refine LeO.ite ?_ ?_)
      | (with_reducible refine LeO.bind ?_ (fun _ => ?_))
      | exact ih0 _ _ _ _ _
      | exact LeO.none _
      | refine LeO.ite ?_ ?_
      | refine LeO.bind ?_ (fun _ => ?_)
set_option maxHeartbeats 8000000 in
set_option maxRecDepth 100000 in
theorem spec_csClimbs.calls (k : Nat) (A0 : Option Addr) (c0 : Nat) (l0 : List (S89)) (r : Int) (w : World) (hr0 : Kd.C k89 w A0 l0.length l0) (hc0 : l0.length ≤ c0) (h : spec_csClimbs.f k l0 = some r) :
    Calls Try.prog 116 #[.slice A0 l0.length c0] w fun e w' => e = .returned (.int .i64 r) ∧ Below w.heap.size w w' := by
  have hu89 := Try.underlying89
  have HR0 := Aside0.mk hr0
  have HC0 := Aside0.mk hc0
  clear hr0 hc0
  have HB := Aside0.mk (Below.refl w.heap.size w)
  have H : (spec_csClimbs.l0 k 0 0 l0 (l0.length : Int) 0) = some r := h
  clear h
  have H' := Aside0.mk H
  clear H
  go_enter Try.func116, Try.ntmps116
  go_wp2
  go_loopg [3, 4, 9] k (fun kq v3 v4 v9 w' => ∃ (x3_1 : Int) (x4_1 : Int) (x9_1 : Int), v3 = .int .i64 x3_1 ∧ v4 = .int .i64 x4_1 ∧ v9 = .int .i64 x9_1 ∧ Aside0 (spec_csClimbs.l0 kq x3_1 x4_1 l0 (l0.length : Int) x9_1 = some r) ∧ Aside0 (kq ≤ k) ∧ Aside0 (Below w.heap.size w w'))
  case atStart => exact ⟨(0), (0), (0), (by first | rfl | (simp; done) | (simp [*]; done)), (by first | rfl | (simp; done) | (simp [*]; done)), (by first | rfl | (simp; done) | (simp [*]; done)), H', ⟨Nat.le_refl _⟩, ⟨by repeat (first | (with_reducible first | exact HB.out | apply below_alloc | apply pw_below_drewN | apply below_drew1) | exact HB.out)⟩⟩
  case round =>
    clear H'
    try clear c1
    obtain ⟨x3_1, x4_1, x9_1, rfl, rfl, rfl, HA, HK1, HB⟩ := hrel
    cases gk with
    | zero => exact absurd HA.out (by simp [spec_csClimbs.l0])
    | succ k1 =>
      have H := HA.out
      clear HA
      simp only [spec_csClimbs.l0] at H
      by_cases c2 : x9_1 < (l0.length : Int)
      · rw [if_pos c2] at H
        have c2b0 : decide (x9_1 < (l0.length : Int)) = true := decide_eq_true c2
        clear c2
        by_cases c3 : 0 ≤ x9_1
        · rw [if_pos c3] at H
          have c3b0 : decide (0 ≤ x9_1) = true := decide_eq_true c3
          clear c3
          by_cases c4 : x9_1 < (l0.length : Int)
          · rw [if_pos c4] at H
            have c4b0 : decide (x9_1 < (l0.length : Int)) = true := decide_eq_true c4
            clear c4
            replace H := Option.bind_eq_some_iff.mp H
            obtain ⟨t131, A50, H⟩ := H
            replace H : (spec_csClimbs.l0 k1 (wrap64 (x3_1 + t131)) ((rd_T89 l0 x9_1).f0) l0 (l0.length : Int) (wrap64 (x9_1 + 1))) = some r := H
            have A5 := Aside0.mk A50
            clear A50
            have H' := Aside0.mk H
            clear H
            have p129 : 0 ≤ (x9_1 : Int) := of_decide_eq_true (by first | (with_reducible assumption) | assumption)
            have q129 : x9_1 < (l0.length : Int) := of_decide_eq_true (by first | (with_reducible assumption) | assumption)
            obtain ⟨ad129, e129, hx129_0, hx129_1⟩ := at_T89 HR0.out x9_1 p129 q129
            cases e129
            replace hx129_0 := (HB.out.cell (World.block_lt_of_cell? w _ hx129_0)).trans hx129_0
            replace hx129_1 := (HB.out.cell (World.block_lt_of_cell? w _ hx129_1)).trans hx129_1
            replace p129 := eq_true p129
            replace q129 := eq_true q129
            go_wp2_with (first | ((with_reducible refine gate_dst (N := 6) rfl ?_); refine box_event ?hg (N := 6) ?hd (cs := #[.int .i64 0, .bool false]) (t := 89) ?hr ?_; (case hd => rfl); (case hg => rfl); (case hr => first | (go_simp; done) | (go_simp; rfl)); intro gb130 hg w6 hbox hb; have n0_ := Aside0.mk (below_step (by repeat (first | (with_reducible first | exact HB.out | apply below_alloc | apply pw_below_drewN | apply below_drew1) | exact HB.out)) hb); have n1_ := Aside0.mk (hbox); have n2_ := Aside0.mk ((by rw [hg]; exact (below_size (by repeat (first | (with_reducible first | exact HB.out | apply below_alloc | apply pw_below_drewN | apply below_drew1) | exact HB.out))) : w.heap.size ≤ gb130)); have n3_ := Aside0.mk ((by rw [hg]; exact (below_size (by repeat (first | (with_reducible first | exact HB.out | apply below_alloc | apply pw_below_drewN | apply below_drew1) | exact HB.out))) : w.heap.size ≤ gb130)); clear HB; have HB := n0_; have BK130 := n1_; have GW130 := n2_; have GE130 := n3_; clear n0_ n1_ n2_ n3_; clear hb hbox hg; have hcz7_0 : w6.cell? ⟨gb130, 0, none⟩ = some (.int .i64 0) := (blk_cell BK130.out 0).trans rfl; have hcz7_1 : w6.cell? ⟨gb130, 1, none⟩ = some (.bool false) := (blk_cell BK130.out 1).trans rfl; have hfz7_0 := blk_frozen BK130.out 0; have hfz7_1 := blk_frozen BK130.out 1) | ((with_reducible refine gate_callee (f := 146) rfl ?_); refine goesL_ (some 18) rfl rfl Try.func146 (by kernel_rfl) rfl #[.int .i64 (wrap64 (((rd_T89 l0 x9_1).f0) - x4_1))] rfl (by (try simp only [List.map_toArray, List.map_cons, List.map_nil]); first | done | rfl | (simp only [List.length_drop, List.length_take]; rfl)) ?_; (with_reducible refine (spec_l1Abs.calls (wrap64 (((rd_T89 l0 x9_1).f0) - x4_1)) t131 _ A5.out).mono ?_); rintro e w' ⟨rfl, ⟨nd, rfl⟩⟩; refine ⟨_, rfl, ?_⟩))
            go_roundg k1
            case measure => have := HK1.out; omega
            case rel => exact ⟨(wrap64 (x3_1 + t131)), ((rd_T89 l0 x9_1).f0), (wrap64 (x9_1 + 1)), (by first | rfl | (simp; done) | (simp [*]; done)), (by first | rfl | (simp; done) | (simp [*]; done)), (by first | rfl | (simp; done) | (simp [*]; done)), H', ⟨by have := HK1.out; omega⟩, ⟨by repeat (first | (with_reducible first | exact HB.out | apply below_alloc | apply pw_below_drewN | apply below_drew1 | refine below_set ?_ GE130.out) | exact HB.out)⟩⟩
          · rw [if_neg c4] at H
            exact absurd H (by simp)
        · rw [if_neg c3] at H
          exact absurd H (by simp)
      · rw [if_neg c2] at H
        have c2b0 : decide (x9_1 < (l0.length : Int)) = false := decide_eq_false c2
        clear c2
        obtain rfl := Option.some.inj H
        go_wp2
        go_ret
        exact ⟨by first | rfl | (simp [errW_none, errW_some] <;> rfl) | (simp [*, errW_none, errW_some] <;> rfl), by repeat (first | (with_reducible first | exact HB.out | apply below_alloc | apply pw_below_drewN | apply below_drew1) | exact HB.out)⟩

/-! ### spec_csCost: function 76 -/
def spec_csCost.f (k : Nat) (a0_0 : Int) (a0_1 : Int) (a0_2 : Int) (l1 : List (S89)) : Option (Int) := (spec_flBroken.f k l1).bind fun t133 => ((spec_csClimbs.f k l1).bind fun t134 => (some (wrap64 ((wrap64 ((wrap64 (a0_0 * t133)) + (wrap64 (a0_1 * (l1.length : Int))))) + (wrap64 (a0_2 * t134))))))
theorem spec_csCost.mono : ∀ a0 a1 a2 a3 k, LeO (spec_csCost.f k a0 a1 a2 a3) (spec_csCost.f (k + 1) a0 a1 a2 a3) := by
  intro a0 a1 a2 a3 k
  unfold spec_csCost.f
  repeat' first
      | (with_reducible exact spec_csClimbs.mono _ _)
      | (with_reducible exact spec_flBroken.mono _ _)
      | (with_reducible exact LeO.refl _)
      | (with_reducible exact LeO.none _)
      | (with_reducible refine LeO.ite ?_ ?_)
      | (with_reducible refine LeO.bind ?_ (fun _ => ?_))
      | exact spec_csClimbs.mono _ _
      | exact spec_flBroken.mono _ _
      | exact LeO.none _
      | refine LeO.ite ?_ ?_
      | refine LeO.bind ?_ (fun _ => ?_)
def spec_csCost.T1 : Bool × List (List Nat × List Nat) := (true, [([], []), ([0], [0]), ([], []), ([2], [2]), ([1, 3], [1, 3]), ([], []), ([5], [5]), ([], []), ([7], [7]), ([6, 8], [6, 8]), ([4, 9], [4, 9]), ([], []), ([11], [11]), ([], []), ([13, 3], [13]), ([12, 14], [12, 14]), ([10, 15], [10, 15]), ([16, 14, 0, 1, 2, 3, 4, 5, 6, 7, 8, 9, 10, 11, 12, 13, 14, 15, 16], [16])])
def spec_csCost.B1 : List Nat := [0, 1, 0, 4, 15, 0, 32, 0, 128, 480, 1023, 0, 2048, 0, 8204, 30732, 65535, 131071]
theorem spec_csCost.tab1 : rtab .any (opsOf Try.f76 1) = spec_csCost.T1 := by kernel_rfl
theorem spec_csCost.bits1 : waitsOk spec_csCost.T1.2 spec_csCost.B1 = true := by kernel_rfl
set_option maxHeartbeats 8000000 in
set_option maxRecDepth 100000 in
theorem spec_csCost.calls (k : Nat) (a0_0 : Int) (a0_1 : Int) (a0_2 : Int) (A1 : Option Addr) (c1 : Nat) (l1 : List (S89)) (r : Int) (w : World) (hr1 : Kd.C k89 w A1 l1.length l1) (hc1 : l1.length ≤ c1) (h : spec_csCost.f k a0_0 a0_1 a0_2 l1 = some r) :
    Calls Try.prog 76 #[.agg #[.int .i64 a0_0, .int .i64 a0_1, .int .i64 a0_2], .slice A1 l1.length c1] w fun e w' => e = .returned (.int .i64 r) ∧ Below w.heap.size w w' := by
  have hu41 := Try.underlying41
  have HR1 := Aside0.mk hr1
  have HC1 := Aside0.mk hc1
  clear hr1 hc1
  have HB := Aside0.mk (Below.refl w.heap.size w)
  have H : ((spec_flBroken.f k l1).bind fun t133 => ((spec_csClimbs.f k l1).bind fun t134 => (some (wrap64 ((wrap64 ((wrap64 (a0_0 * t133)) + (wrap64 (a0_1 * (l1.length : Int))))) + (wrap64 (a0_2 * t134))))))) = some r := h
  clear h
  replace H := Option.bind_eq_some_iff.mp H
  obtain ⟨t133, A30, H⟩ := H
  replace H : ((spec_csClimbs.f k l1).bind fun t134 => (some (wrap64 ((wrap64 ((wrap64 (a0_0 * t133)) + (wrap64 (a0_1 * (l1.length : Int))))) + (wrap64 (a0_2 * t134)))))) = some r := H
  have A3 := Aside0.mk A30
  clear A30
  replace H := Option.bind_eq_some_iff.mp H
  obtain ⟨t134, A40, H⟩ := H
  replace H : (some (wrap64 ((wrap64 ((wrap64 (a0_0 * t133)) + (wrap64 (a0_1 * (l1.length : Int))))) + (wrap64 (a0_2 * t134))))) = some r := H
  have A4 := Aside0.mk A40
  clear A40
  obtain rfl := Option.some.inj H
  go_enter Try.func76, Try.ntmps76
  try go_wp2_with (first | ((with_reducible refine gate_dst (N := 2) rfl ?_); refine box_event ?hg (N := 2) ?hd (cs := #[.int .i64 a0_0, .int .i64 a0_1, .int .i64 a0_2]) (t := 41) ?hr ?_; (case hd => rfl); (case hg => rfl); (case hr => first | (go_simp; done) | (go_simp; rfl)); intro gb132 hg w5 hbox hb; have n0_ := Aside0.mk (below_step (by repeat (first | (with_reducible first | exact HB.out | apply below_alloc | apply pw_below_drewN | apply below_drew1) | exact HB.out)) hb); have n1_ := Aside0.mk (hbox); have n2_ := Aside0.mk ((by rw [hg]; exact (below_size (by repeat (first | (with_reducible first | exact HB.out | apply below_alloc | apply pw_below_drewN | apply below_drew1) | exact HB.out))) : w.heap.size ≤ gb132)); have n3_ := Aside0.mk ((by rw [hg]; exact (below_size (by repeat (first | (with_reducible first | exact HB.out | apply below_alloc | apply pw_below_drewN | apply below_drew1) | exact HB.out))) : w.heap.size ≤ gb132)); clear HB; have HB := n0_; have BK132 := n1_; have GW132 := n2_; have GE132 := n3_; clear n0_ n1_ n2_ n3_; clear hb hbox hg))
  have n0_ := Aside0.mk (blk_drew BK132.out)
  have n1_ := Aside0.mk (below_drew1 HB.out)
  clear BK132
  clear HB
  have BK132 := n0_
  have HB := n1_
  clear n0_ n1_
  refine start_ (n := 18) (S := fun w' => w'.cell? ⟨gb132, 0, none⟩ = some (.int .i64 a0_0) ∧ w'.cell? ⟨gb132, 1, none⟩ = some (.int .i64 a0_1) ∧ w'.cell? ⟨gb132, 2, none⟩ = some (.int .i64 a0_2)) (ds := []) #[false, false, false, false, false, false, false, false, false, false, false, false, false, false, false, false, false, false] (by kernel_rfl) rfl rfl ⟨(blk_cell BK132.out 0).trans rfl, (blk_cell BK132.out 1).trans rfl, (blk_cell BK132.out 2).trans rfl⟩ (fun hHeld => ?_); refine with_tabW spec_csCost.tab1 spec_csCost.bits1 (fun HT_ HW_ => ?_)
  generalize w5.drew = w6 at BK132 HB hHeld ⊢
  refine pure_ (i := 0) (N := some 5) (v := ?_) (a' := ?_) #[true, false, false, false, false, false, false, false, false, false, false, false, false, false, false, false, false, false] rfl rfl (any_of HT_.out (by kernel_rfl)) (fun _ _ _ h => h) (Or.inl ⟨by rfl, ?_⟩) ?_ ?_
  rotate_left
  · intro w'
    go_simp
    with_reducible rfl
  rotate_left
  · simp only [Act.put, List.setIfInBounds_toArray, List.set_cons_zero, List.set_cons_succ, i64_w, i32_w]
    rfl
  refine pure_ (i := 2) (N := some 7) (v := ?_) (a' := ?_) #[true, false, true, false, false, false, false, false, false, false, false, false, false, false, false, false, false, false] rfl rfl (any_of HT_.out (by kernel_rfl)) (fun _ _ _ h => h) (Or.inl ⟨by rfl, ?_⟩) ?_ ?_
  rotate_left
  · intro w'
    go_simp
    with_reducible rfl
  rotate_left
  · simp only [Act.put, List.setIfInBounds_toArray, List.set_cons_zero, List.set_cons_succ, i64_w, i32_w]
    rfl
  refine pure_ (i := 5) (N := some 10) (v := ?_) (a' := ?_) #[true, false, true, false, false, true, false, false, false, false, false, false, false, false, false, false, false, false] rfl rfl (any_of HT_.out (by kernel_rfl)) (fun _ _ _ h => h) (Or.inl ⟨by rfl, ?_⟩) ?_ ?_
  rotate_left
  · intro w'
    go_simp
    with_reducible rfl
  rotate_left
  · simp only [Act.put, List.setIfInBounds_toArray, List.set_cons_zero, List.set_cons_succ, i64_w, i32_w]
    rfl
  refine pure_ (i := 7) (N := some 12) (v := ?_) (a' := ?_) #[true, false, true, false, false, true, false, true, false, false, false, false, false, false, false, false, false, false] rfl rfl (any_of HT_.out (by kernel_rfl)) (fun _ _ _ h => h) (Or.inl ⟨by rfl, ?_⟩) ?_ ?_
  rotate_left
  · intro w'
    go_simp
    with_reducible rfl
  rotate_left
  · simp only [Act.put, List.setIfInBounds_toArray, List.set_cons_zero, List.set_cons_succ, i64_w, i32_w]
    rfl
  refine pure_ (i := 8) (N := some 13) (v := ?_) (a' := ?_) #[true, false, true, false, false, true, false, true, true, false, false, false, false, false, false, false, false, false] rfl rfl (any_of HT_.out (by kernel_rfl)) (fun _ _ _ h => h) (Or.inl ⟨by rfl, ?_⟩) ?_ ?_
  rotate_left
  · intro w'
    go_simp
    with_reducible rfl
  rotate_left
  · simp only [Act.put, List.setIfInBounds_toArray, List.set_cons_zero, List.set_cons_succ, i64_w, i32_w]
    rfl
  refine pure_ (i := 11) (N := some 16) (v := ?_) (a' := ?_) #[true, false, true, false, false, true, false, true, true, false, false, true, false, false, false, false, false, false] rfl rfl (any_of HT_.out (by kernel_rfl)) (fun _ _ _ h => h) (Or.inl ⟨by rfl, ?_⟩) ?_ ?_
  rotate_left
  · intro w'
    go_simp
    with_reducible rfl
  rotate_left
  · simp only [Act.put, List.setIfInBounds_toArray, List.set_cons_zero, List.set_cons_succ, i64_w, i32_w]
    rfl
  refine pure_ (i := 13) (N := some 18) (v := ?_) (a' := ?_) #[true, false, true, false, false, true, false, true, true, false, false, true, false, true, false, false, false, false] rfl rfl (any_of HT_.out (by kernel_rfl)) (fun _ _ _ h => h) (Or.inl ⟨by rfl, ?_⟩) ?_ ?_
  rotate_left
  · intro w'
    go_simp
    with_reducible rfl
  rotate_left
  · simp only [Act.put, List.setIfInBounds_toArray, List.set_cons_zero, List.set_cons_succ, i64_w, i32_w]
    rfl
  refine take_ (i := 1) (N := some 6) (v := ?_) (a' := ?_) #[true, true, true, false, false, true, false, true, true, false, false, true, false, true, false, false, false, false] rfl rfl (take_ofW HT_.out HW_.out (by kernel_rfl)) (fun _ _ _ h => h) (Or.inl ⟨by rfl, ?_⟩) hHeld ?_ ?_
  rotate_left
  · rintro w' ⟨s0, s1, s2⟩
    go_simp
    with_reducible rfl
  rotate_left
  · simp only [Act.put, List.setIfInBounds_toArray, List.set_cons_zero, List.set_cons_succ, i64_w, i32_w]
    rfl
  refine take_ (i := 6) (N := some 11) (v := ?_) (a' := ?_) #[true, true, true, false, false, true, true, true, true, false, false, true, false, true, false, false, false, false] rfl rfl (take_ofW HT_.out HW_.out (by kernel_rfl)) (fun _ _ _ h => h) (Or.inl ⟨by rfl, ?_⟩) hHeld ?_ ?_
  rotate_left
  · rintro w' ⟨s0, s1, s2⟩
    go_simp
    with_reducible rfl
  rotate_left
  · simp only [Act.put, List.setIfInBounds_toArray, List.set_cons_zero, List.set_cons_succ, i64_w, i32_w]
    rfl
  refine pure_ (i := 9) (N := some 14) (v := ?_) (a' := ?_) #[true, true, true, false, false, true, true, true, true, true, false, true, false, true, false, false, false, false] rfl rfl (any_of HT_.out (by kernel_rfl)) (fun _ _ _ h => h) (Or.inl ⟨by rfl, ?_⟩) ?_ ?_
  rotate_left
  · intro w'
    go_simp
    with_reducible rfl
  rotate_left
  · simp only [Act.put, List.setIfInBounds_toArray, List.set_cons_zero, List.set_cons_succ, i64_w, i32_w]
    rfl
  refine take_ (i := 12) (N := some 17) (v := ?_) (a' := ?_) #[true, true, true, false, false, true, true, true, true, true, false, true, true, true, false, false, false, false] rfl rfl (take_ofW HT_.out HW_.out (by kernel_rfl)) (fun _ _ _ h => h) (Or.inl ⟨by rfl, ?_⟩) hHeld ?_ ?_
  rotate_left
  · rintro w' ⟨s0, s1, s2⟩
    go_simp
    with_reducible rfl
  rotate_left
  · simp only [Act.put, List.setIfInBounds_toArray, List.set_cons_zero, List.set_cons_succ, i64_w, i32_w]
    rfl
  refine one_ (i := 3) (N := some 8) #[true, true, true, true, false, true, true, true, true, true, false, true, true, true, false, false, false, false] rfl rfl (one_of HT_.out (by kernel_rfl)) (by decide) (fun K hK => ?_)
  refine goes_ Try.func115 (by kernel_rfl) rfl #[.slice A1 l1.length c1] (by rfl) rfl rfl (by (try simp only [List.map_toArray, List.map_cons, List.map_nil]); first | done | rfl | (simp only [List.length_drop, List.length_take]; rfl)) ?_
  with_reducible refine (spec_flBroken.calls k _ _ l1 t133 _ ?side1 ?side2 A3.out).mono ?_
  (case side1 => repeat (first | exact (Kd.C_below HR1.out HB.out) | (with_reducible refine Kd.C_alloc ?_ _) | (with_reducible refine Kd.C_drewN ?_ _) | (with_reducible refine Kd.C_drew ?_)))
  (case side2 => exact HC1.out)
  rintro e w7 ⟨rfl, hb⟩
  refine ⟨_, rfl, ?_⟩
  have n0_ := Aside0.mk (blk_below (g := gb132) (o := .cells #[.int .i64 a0_0, .int .i64 a0_1, .int .i64 a0_2] 41 (0, 0)) (by (with_reducible repeat (first | refine blk_drewN ?_ _ | refine blk_drew ?_ | refine blk_alloc ?_ _)); exact BK132.out) hb)
  have n1_ := Aside0.mk (below_step (by repeat (first | (with_reducible first | exact HB.out | apply below_alloc | apply pw_below_drewN | apply below_drew1 | refine below_set ?_ GE132.out) | exact HB.out)) hb)
  clear BK132
  clear HB
  have BK132 := n0_
  have HB := n1_
  clear n0_ n1_
  (try clear hb)
  (try clear hb2)
  (try clear hk)
  (try clear hi)
  refine hK.out _ _ ⟨(blk_cell BK132.out 0).trans rfl, (blk_cell BK132.out 1).trans rfl, (blk_cell BK132.out 2).trans rfl⟩ (fun hHeld => ?_)
  clear hK K
  refine norm_ (a' := ?_) ?_ ?_
  rotate_left
  · show Act.put _ (some 8) _ = _
    simp only [Act.put, List.setIfInBounds_toArray, List.set_cons_zero, List.set_cons_succ, i64_w, i32_w]
    rfl
  refine pure_ (i := 4) (N := some 9) (v := ?_) (a' := ?_) #[true, true, true, true, true, true, true, true, true, true, false, true, true, true, false, false, false, false] rfl rfl (any_of HT_.out (by kernel_rfl)) (fun _ _ _ h => h) (Or.inl ⟨by rfl, ?_⟩) ?_ ?_
  rotate_left
  · intro w'
    go_simp
    with_reducible rfl
  rotate_left
  · simp only [Act.put, List.setIfInBounds_toArray, List.set_cons_zero, List.set_cons_succ, i64_w, i32_w]
    rfl
  refine pure_ (i := 10) (N := some 15) (v := ?_) (a' := ?_) #[true, true, true, true, true, true, true, true, true, true, true, true, true, true, false, false, false, false] rfl rfl (any_of HT_.out (by kernel_rfl)) (fun _ _ _ h => h) (Or.inl ⟨by rfl, ?_⟩) ?_ ?_
  rotate_left
  · intro w'
    go_simp
    with_reducible rfl
  rotate_left
  · simp only [Act.put, List.setIfInBounds_toArray, List.set_cons_zero, List.set_cons_succ, i64_w, i32_w]
    rfl
  refine one_ (i := 14) (N := some 19) #[true, true, true, true, true, true, true, true, true, true, true, true, true, true, true, false, false, false] rfl rfl (one_of HT_.out (by kernel_rfl)) (by decide) (fun K hK => ?_)
  refine goes_ Try.func116 (by kernel_rfl) rfl #[.slice A1 l1.length c1] (by rfl) rfl rfl (by (try simp only [List.map_toArray, List.map_cons, List.map_nil]); first | done | rfl | (simp only [List.length_drop, List.length_take]; rfl)) ?_
  with_reducible refine (spec_csClimbs.calls k _ _ l1 t134 _ ?side1 ?side2 A4.out).mono ?_
  (case side1 => repeat (first | exact (Kd.C_below HR1.out HB.out) | (with_reducible refine Kd.C_alloc ?_ _) | (with_reducible refine Kd.C_drewN ?_ _) | (with_reducible refine Kd.C_drew ?_)))
  (case side2 => exact HC1.out)
  rintro e w8 ⟨rfl, hb⟩
  refine ⟨_, rfl, ?_⟩
  have n0_ := Aside0.mk (blk_below (g := gb132) (o := .cells #[.int .i64 a0_0, .int .i64 a0_1, .int .i64 a0_2] 41 (0, 0)) (by (with_reducible repeat (first | refine blk_drewN ?_ _ | refine blk_drew ?_ | refine blk_alloc ?_ _)); exact BK132.out) hb)
  have n1_ := Aside0.mk (below_step (by repeat (first | (with_reducible first | exact HB.out | apply below_alloc | apply pw_below_drewN | apply below_drew1 | refine below_set ?_ GE132.out) | exact HB.out)) hb)
  clear BK132
  clear HB
  have BK132 := n0_
  have HB := n1_
  clear n0_ n1_
  (try clear hb)
  (try clear hb2)
  (try clear hk)
  (try clear hi)
  refine hK.out _ _ ⟨(blk_cell BK132.out 0).trans rfl, (blk_cell BK132.out 1).trans rfl, (blk_cell BK132.out 2).trans rfl⟩ (fun hHeld => ?_)
  clear hK K
  refine norm_ (a' := ?_) ?_ ?_
  rotate_left
  · show Act.put _ (some 19) _ = _
    simp only [Act.put, List.setIfInBounds_toArray, List.set_cons_zero, List.set_cons_succ, i64_w, i32_w]
    rfl
  refine pure_ (i := 15) (N := some 20) (v := ?_) (a' := ?_) #[true, true, true, true, true, true, true, true, true, true, true, true, true, true, true, true, false, false] rfl rfl (any_of HT_.out (by kernel_rfl)) (fun _ _ _ h => h) (Or.inl ⟨by rfl, ?_⟩) ?_ ?_
  rotate_left
  · intro w'
    go_simp
    with_reducible rfl
  rotate_left
  · simp only [Act.put, List.setIfInBounds_toArray, List.set_cons_zero, List.set_cons_succ, i64_w, i32_w]
    rfl
  refine pure_ (i := 16) (N := some 21) (v := ?_) (a' := ?_) #[true, true, true, true, true, true, true, true, true, true, true, true, true, true, true, true, true, false] rfl rfl (any_of HT_.out (by kernel_rfl)) (fun _ _ _ h => h) (Or.inl ⟨by rfl, ?_⟩) ?_ ?_
  rotate_left
  · intro w'
    go_simp
    with_reducible rfl
  rotate_left
  · simp only [Act.put, List.setIfInBounds_toArray, List.set_cons_zero, List.set_cons_succ, i64_w, i32_w]
    rfl
  refine pure_ (i := 17) (N := some 4) (v := ?_) (a' := ?_) #[true, true, true, true, true, true, true, true, true, true, true, true, true, true, true, true, true, true] rfl rfl (any_of HT_.out (by kernel_rfl)) (fun _ _ _ h => h) (Or.inl ⟨by rfl, ?_⟩) ?_ ?_
  rotate_left
  · intro w'
    go_simp
    with_reducible rfl
  rotate_left
  · simp only [Act.put, List.setIfInBounds_toArray, List.set_cons_zero, List.set_cons_succ, i64_w, i32_w]
    rfl
  refine done_ (done_of HT_.out (by kernel_rfl)) ?_
  try go_wp2
  go_ret
  exact ⟨by first | rfl | (simp [errW_none, errW_some] <;> rfl) | (simp [*, errW_none, errW_some] <;> rfl), by repeat (first | (with_reducible first | exact HB.out | apply below_alloc | apply pw_below_drewN | apply below_drew1 | refine below_set ?_ GE132.out) | exact HB.out)⟩

-- FOR impl.greatest
-- USES info int
-- USES info []int

/-! ### The greatest of a row of numbers, plain -/
def gStep (f : Nat → Int) (b : Nat) (s : List Int × Int) : List Int × Int := if s.2 < f b then ([(b : Int)], f b) else if f b = s.2 then (s.1 ++ [(b : Int)], s.2) else s
def gOut (f : Nat → Int) : Nat → List Int × Int
  | 0 => ([], -1)
  | b + 1 => gStep f b (gOut f b)
theorem gOut_len (f : Nat → Int) : ∀ b, (gOut f b).1.length ≤ b
  | 0 => Nat.le_refl _
  | b + 1 => by
    have h := gOut_len f b
    rw [gOut]
    unfold gStep
    split
    · simp
    · split
      · simp; omega
      · omega
theorem gOut_eq {f g : Nat → Int} : ∀ b, (∀ i, i < b → f i = g i) → gOut f b = gOut g b
  | 0, _ => rfl
  | b + 1, h => by
    rw [gOut, gOut, gOut_eq b (fun i hi => h i (by omega))]
    unfold gStep
    rw [h b (by omega)]
set_option maxHeartbeats 8000000 in
set_option maxRecDepth 100000 in
theorem greatest.calls (f : Nat → Int) (F : Nat) (fn : Func) (cap : Array Value) (N : Nat) (hN : N ≤ 60) (w : World)
    (hF : Try.prog.funcs[F]? = some fn) (hname : (fn.name == "runtime.NumGoroutine") = false) (hb : fn.body.isSome = true)
    (hf : ∀ (b : Nat) (W : World), b ≤ N → Below w.heap.size w W → Calls Try.prog F (#[.int .i64 (b : Int)] ++ cap) W fun e W' => e = .returned (.int .i64 (f b)) ∧ Below W.heap.size W W') :
    Calls Try.prog 77 #[.int .i64 (N : Int), .func (.func F) #[] cap] w fun e_ w' => ∃ v, e_ = .returned v ∧ Kd.R (Kd.int .i64) 3 w' w.heap.size (fun _ => True) v (gOut f (N + 1)).1 ∧ Below w.heap.size w w' := by
  have HN := Aside0.mk hname
  have HF := Aside0.mk hF
  have HBd := Aside0.mk hb
  have Hf := Aside0.mk hf
  have HE := Aside0.mk hN
  have wN : IntKind.i64.wrap ((N : Int) + 1) = (N : Int) + 1 := Hw.wrap_w (by omega) (by omega)
  clear hname hF hb hf hN
  go_enter Try.func77, Try.ntmps77
  go_wp2
  go_loopg [5, 6, 7, 8, 12] (N + 1) (fun k v5 v6 v7 v8 v12 w' => ∃ b : Nat, v12 = .int .i64 (b : Int) ∧ v6 = .int .i64 (gOut f b).2 ∧ Aside0 (b + k = N + 1) ∧ Aside0 (Kd.R (Kd.int .i64) 3 w' w.heap.size (fun _ => True) v5 (gOut f b).1) ∧ Aside0 (Below w.heap.size w w'))
  case atStart => exact ⟨0, rfl, rfl, ⟨by omega⟩, ⟨Hw.R_empty _ _ _ _ _ (Nat.le_refl _) trivial⟩, ⟨by repeat (first | exact Below.refl _ _ | refine below_alloc ?_ _)⟩⟩
  case round =>
    obtain ⟨b, rfl, rfl, HK, HO, HB⟩ := hrel
    by_cases hlf : b ≤ N
    · have d4 : decide ((b : Int) < (N : Int) + 1) = true := decide_eq_true (by omega)
      have d5 : (b < N + 1) = True := eq_true (by omega)
      have d6 : ((b : Int) < (N : Int) + 1) = True := eq_true (by omega)
      have wb : IntKind.i64.wrap ((b : Int) + 1) = ((b + 1 : Nat) : Int) := Hw.wrap_w (by omega) (by have := HE.out; omega)
      obtain ⟨n, hn⟩ : ∃ n, n = f b := ⟨_, rfl⟩
      have FC := Aside0.mk (fun W hW => Hf.out b W hlf hW)
      have HXL := Aside0.mk (gOut_len f b)
      obtain ⟨xs, hxs⟩ : ∃ xs, xs = (gOut f b).1 := ⟨_, rfl⟩
      obtain ⟨m, hm⟩ : ∃ m, m = (gOut f b).2 := ⟨_, rfl⟩
      have hp : gOut f b = (xs, m) := by rw [hxs, hm]
      have HS : Aside0 (gOut f (b + 1) = if m < n then ([(b : Int)], n) else if n = m then (xs ++ [(b : Int)], m) else (xs, m)) := ⟨by rw [gOut, hp]; unfold gStep; rw [← hn]⟩
      rw [← hn] at FC
      rw [← hxs] at HXL HO
      rw [← hm]
      clear hp
      replace HXL : Aside0 (xs.length ≤ b ∧ b ≤ N) := ⟨HXL.out, hlf⟩
      clear hlf hxs hm hn
      by_cases h1 : m < n
      · have e1 : decide (m < n) = true := decide_eq_true h1
        have e2 : (m < n) = True := eq_true h1
        have e3 : (n == n) = true := by simp
        obtain ⟨y, hy⟩ : ∃ y : List Int, y = [] ++ [(b : Int)] := ⟨_, rfl⟩
        have Ny := Aside0.mk hy
        rw [if_pos h1, show [(b : Int)] = y from hy.symm] at HS
        have HX := Aside0.mk h1
        have HO2 := HO
        clear h1 hy HO
        have HO : Aside0 (Kd.R (Kd.int .i64) 3 wr w.heap.size (fun _ => True) (.slice none 0 0) ([] : List Int)) := ⟨Kd.R_nil _ _ _ _ _⟩
        clear HO2
        go_wp2_with (first | ((with_reducible refine Hw.gateV (t := 15) rfl ?_); (refine Hw.goesV (some 17) rfl rfl HF.out HN.out HBd.out #[.int .i64 (b : Int)] rfl rfl (by simp only [List.map_toArray, List.map_cons, List.map_nil]; rfl) ?_); (refine (FC.out _ HB.out).mono ?_); rintro e_ w_1 ⟨rfl, hb_⟩; refine ⟨_, rfl, ?_⟩; have ho_ := Kd.R_below HO.out hb_; have hB := Hx.bb_below hb_ HB.out; clear HO HB; have HO := Aside0.mk ho_; have HB := Aside0.mk hB; clear ho_ hB hb_) | ((with_reducible refine gate_builtin (b := .append) (xs := #[.tmp 25, .tmp 27]) rfl ?_); at_builtin; refine Kd.R_append (Kd.int .i64) (w0 := w) w.heap.size rfl (.tmp 25) (.tmp 27) 46 3 (.int .i64 0) 8 rfl Try.underlying46 info3 rfl (by decide) (by omega) (.slice none 0 0) ([] : List Int) (b : Int) [.int .i64 ((b : Int))] (fun _ => True) (fun _ => False) rfl rfl ?aP (fun _ hk => hk.elim) ?aF ?aO ?aB ?aS ?aL ?_; (case aP => exact rfl); (case aB => exact (by repeat (first | (with_reducible first | exact HB.out | apply below_alloc | apply pw_below_drewN | apply below_drew1) | exact HB.out))); (case aF => exact (fun _ _ => trivial)); (case aO => exact (by (with_reducible repeat (first | apply Kd.R_alloc | apply Kd.R_drewN | apply Kd.R_drew)); exact HO.out)); (case aS => exact (below_size (by repeat (first | (with_reducible first | exact HB.out | apply below_alloc | apply pw_below_drewN | apply below_drew1) | exact HB.out)))); (case aL => have := HXL.out; have := HE.out; first | omega | (simp only [List.length_nil]; omega)); intro v2_ w_2 ho hb hg hat; rw [← Ny.out] at ho; clear HB HO; have HB := Aside0.mk hb; have HO := Aside0.mk ho; clear ho hb hg hat))
        go_roundg (N - b)
        case measure => have := HK.out; have := HXL.out; omega
        case rel => exact ⟨b + 1, rfl, by rw [HS.out], ⟨by have := HK.out; have := HXL.out; omega⟩, ⟨by rw [HS.out]; exact HO.out⟩, HB⟩
      · have e1 : decide (m < n) = false := decide_eq_false h1
        have e2 : (m < n) = False := eq_false h1
        rw [if_neg h1] at HS
        by_cases h2 : n = m
        · subst h2
          rw [if_pos rfl] at HS
          have e3 : (n == n) = true := by simp
          obtain ⟨y, hy⟩ : ∃ y : List Int, y = xs ++ [(b : Int)] := ⟨_, rfl⟩
          have Ny := Aside0.mk hy
          rw [← hy] at HS
          have HX := Aside0.mk h1
          clear h1 hy
          go_wp2_with (first | ((with_reducible refine Hw.gateV (t := 15) rfl ?_); (refine Hw.goesV (some 17) rfl rfl HF.out HN.out HBd.out #[.int .i64 (b : Int)] rfl rfl (by simp only [List.map_toArray, List.map_cons, List.map_nil]; rfl) ?_); (refine (FC.out _ HB.out).mono ?_); rintro e_ w_1 ⟨rfl, hb_⟩; refine ⟨_, rfl, ?_⟩; have ho_ := Kd.R_below HO.out hb_; have hB := Hx.bb_below hb_ HB.out; clear HO HB; have HO := Aside0.mk ho_; have HB := Aside0.mk hB; clear ho_ hB hb_) | ((with_reducible refine gate_builtin (b := .append) (xs := #[.tmp 25, .tmp 27]) rfl ?_); at_builtin; refine Kd.R_append (Kd.int .i64) (w0 := w) w.heap.size rfl (.tmp 25) (.tmp 27) 46 3 (.int .i64 0) 8 rfl Try.underlying46 info3 rfl (by decide) (by omega) u5 xs (b : Int) [.int .i64 ((b : Int))] (fun _ => True) (fun _ => False) rfl rfl ?aP (fun _ hk => hk.elim) ?aF ?aO ?aB ?aS ?aL ?_; (case aP => exact rfl); (case aB => exact (by repeat (first | (with_reducible first | exact HB.out | apply below_alloc | apply pw_below_drewN | apply below_drew1) | exact HB.out))); (case aF => exact (fun _ _ => trivial)); (case aO => exact (by (with_reducible repeat (first | apply Kd.R_alloc | apply Kd.R_drewN | apply Kd.R_drew)); exact HO.out)); (case aS => exact (below_size (by repeat (first | (with_reducible first | exact HB.out | apply below_alloc | apply pw_below_drewN | apply below_drew1) | exact HB.out)))); (case aL => have := HXL.out; have := HE.out; first | omega | (simp only [List.length_nil]; omega)); intro v2_ w_2 ho hb hg hat; rw [← Ny.out] at ho; clear HB HO; have HB := Aside0.mk hb; have HO := Aside0.mk ho; clear ho hb hg hat))
          go_roundg (N - b)
          case measure => have := HK.out; have := HXL.out; omega
          case rel => exact ⟨b + 1, rfl, by rw [HS.out], ⟨by have := HK.out; have := HXL.out; omega⟩, ⟨by rw [HS.out]; exact HO.out⟩, HB⟩
        · have e3 : (n == m) = false := by simpa using h2
          rw [if_neg h2] at HS
          have HX := Aside0.mk (And.intro h1 h2)
          clear h1 h2
          go_wp2_with (first | ((with_reducible refine Hw.gateV (t := 15) rfl ?_); (refine Hw.goesV (some 17) rfl rfl HF.out HN.out HBd.out #[.int .i64 (b : Int)] rfl rfl (by simp only [List.map_toArray, List.map_cons, List.map_nil]; rfl) ?_); (refine (FC.out _ HB.out).mono ?_); rintro e_ w_1 ⟨rfl, hb_⟩; refine ⟨_, rfl, ?_⟩; have ho_ := Kd.R_below HO.out hb_; have hB := Hx.bb_below hb_ HB.out; clear HO HB; have HO := Aside0.mk ho_; have HB := Aside0.mk hB; clear ho_ hB hb_))
          go_roundg (N - b)
          case measure => have := HK.out; have := HXL.out; omega
          case rel => exact ⟨b + 1, rfl, by rw [HS.out], ⟨by have := HK.out; have := HXL.out; omega⟩, ⟨by rw [HS.out]; exact HO.out⟩, HB⟩
    · have d4 : decide ((b : Int) < (N : Int) + 1) = false := decide_eq_false (by omega)
      have d5 : (b < N + 1) = False := eq_false (by omega)
      have d6 : ((b : Int) < (N : Int) + 1) = False := eq_false (by omega)
      have HF2 : Aside0 (gOut f b = gOut f (N + 1)) := ⟨by rw [show b = N + 1 by have := HK.out; omega]⟩
      clear hlf
      go_wp2
      go_ret
      exact ⟨_, rfl, by rw [← HF2.out]; exact HO.out, HB.out⟩


end Go.Proofs.Ytoomacelbhojhaa.E
