/- Plain Lean functions with the answers of Go functions, and proofs of it: printed by a program of this session (pr.py) over the kit's print, with hand-written parts. -/
import Derived.Test.YtoomacelbhojhaaDx0
import Derived.Test.YtoomacelbhojhaaDx1
import Derived.Test.YtoomacelbhojhaaDx2
namespace Go.Proofs.Ytoomacelbhojhaa.D
open Go.RowKit Go.Proofs.YtoomacelbhojhaaW.PrintWords Go.Proofs.YtoomacelbhojhaaW.PrintLast Go.Proofs.YtoomacelbhojhaaW.PrintMore
attribute [local go_sem] max2_int min2_int max_two min_two max_three min_three max_four min_four   -- for this text's walks alone
set_option linter.unusedVariables false
set_option linter.unusedSimpArgs false

-- FOR impl.newCoster
-- CALLS (*impl.coster).first
/-! ### The program's table of costs -/
def CTab (p : CP) (cs : Array Value) (q : Nat) : Prop :=
  cs.size = 1345 ∧ (cs[0]? = some (.int .i64 p.e) ∧ cs[1]? = some (.int .i64 p.t) ∧ cs[2]? = some (.int .i64 p.c)) ∧
  ∀ n e s, n < 61 → e < 11 → s < 2 → (n = 0 ∨ ((n - 1) * 11 + e) * 2 + s < q) → cs[3 + e * 122 + n * 2 + s]? = some (.int .i64 (cst p e n s))
theorem CTab_zero (p : CP) : CTab p ((((Array.replicate 1345 (.int .i64 0)).setIfInBounds 0 (.int .i64 p.e)).setIfInBounds 1 (.int .i64 p.t)).setIfInBounds 2 (.int .i64 p.c)) 0 := by
  refine ⟨by simp, ⟨by simp [Array.getElem?_setIfInBounds], by simp [Array.getElem?_setIfInBounds], by simp [Array.getElem?_setIfInBounds]⟩, fun n e s hn he hs h => ?_⟩
  have h0 : n = 0 := by omega
  subst h0
  rw [Array.getElem?_setIfInBounds, if_neg (by omega), Array.getElem?_setIfInBounds, if_neg (by omega), Array.getElem?_setIfInBounds, if_neg (by omega), Array.getElem?_replicate, if_pos (by omega), cst_zero]
theorem CTab_set {p : CP} {cs : Array Value} {q n e s : Nat} (h : CTab p cs q) (hq : q = ((n - 1) * 11 + e) * 2 + s) (h1 : 1 ≤ n) (h2 : n < 61) (h3 : e < 11) (h4 : s < 2) (v : Value) :
    CTab p (cs.setIfInBounds (3 + e * 122 + n * 2 + s) v) q ∧ (cs.setIfInBounds (3 + e * 122 + n * 2 + s) v)[3 + e * 122 + n * 2 + s]? = some v := by
  obtain ⟨a, ⟨b0, b1, b2⟩, c⟩ := h
  refine ⟨⟨by simp [a], ⟨?_, ?_, ?_⟩, fun n' e' s' x1 x2 x3 x4 => ?_⟩, ?_⟩
  · rw [Array.getElem?_setIfInBounds, if_neg (by omega)]; exact b0
  · rw [Array.getElem?_setIfInBounds, if_neg (by omega)]; exact b1
  · rw [Array.getElem?_setIfInBounds, if_neg (by omega)]; exact b2
  · rw [Array.getElem?_setIfInBounds, if_neg ?_]
    · exact c n' e' s' x1 x2 x3 x4
    · intro h
      have e1 : e = e' := by omega
      have e2 : n = n' := by omega
      have e3 : s = s' := by omega
      subst e1 e2 e3
      omega
  · rw [Array.getElem?_setIfInBounds, if_pos rfl, if_pos (by omega)]
theorem CTab_done {p : CP} {cs : Array Value} {q n e s : Nat} (h : CTab p cs q) (hq : q = ((n - 1) * 11 + e) * 2 + s) (h1 : 1 ≤ n) (h2 : n < 61) (h3 : e < 11) (h4 : s < 2) (hv : cs[3 + e * 122 + n * 2 + s]? = some (.int .i64 (cst p e n s))) : CTab p cs (q + 1) := by
  obtain ⟨a, b, c⟩ := h
  refine ⟨a, b, fun n' e' s' x1 x2 x3 x4 => ?_⟩
  by_cases hh : n' = 0 ∨ ((n' - 1) * 11 + e') * 2 + s' < q
  · exact c n' e' s' x1 x2 x3 hh
  · have e3 : n = n' := by omega
    have e1 : e = e' := by omega
    have e2 : s = s' := by omega
    subst e1 e2 e3
    exact hv
def CT (w : World) (b : Nat) (p : CP) (q : Nat) : Prop := ∃ cs, w.heap[b]? = some (.cells cs 130 (0, 0)) ∧ CTab p cs q
def CTv (w : World) (b : Nat) (p : CP) (n e s : Nat) (v : Int) : Prop := ∃ cs, w.heap[b]? = some (.cells cs 130 (0, 0)) ∧ CTab p cs (((n - 1) * 11 + e) * 2 + s) ∧ cs[3 + e * 122 + n * 2 + s]? = some (.int .i64 v)
theorem CT.below {w w' : World} {b q : Nat} {p : CP} (h : CT w b p q) (hb : Below w.heap.size w w') : CT w' b p q := by
  obtain ⟨cs, h1, h2⟩ := h
  exact ⟨cs, Hx.b_below hb h1, h2⟩
theorem CT.lt {w : World} {b q : Nat} {p : CP} (h : CT w b p q) : b < w.heap.size := by
  obtain ⟨cs, h1, h2⟩ := h
  exact blk_lt h1
theorem CT.pe {w : World} {b q : Nat} {p : CP} (h : CT w b p q) : w.cell? ⟨b, 0, none⟩ = some (.int .i64 p.e) ∧ w.cell? ⟨b, 1, none⟩ = some (.int .i64 p.t) ∧ w.cell? ⟨b, 2, none⟩ = some (.int .i64 p.c) := by
  obtain ⟨cs, h1, h2⟩ := h
  exact ⟨(blk_cell h1 0).trans h2.2.1.1, (blk_cell h1 1).trans h2.2.1.2.1, (blk_cell h1 2).trans h2.2.1.2.2⟩
theorem CT.get {w : World} {b q : Nat} {p : CP} (h : CT w b p q) {n e s : Nat} (h1 : n < 61) (h2 : e < 11) (h3 : s < 2) (h4 : n = 0 ∨ ((n - 1) * 11 + e) * 2 + s < q) : w.cell? ⟨b, 3 + e * 122 + n * 2 + s, none⟩ = some (.int .i64 (cst p e n s)) := by
  obtain ⟨cs, c1, c2⟩ := h
  exact (blk_cell c1 _).trans (c2.2.2 n e s h1 h2 h3 h4)
theorem CT.put {w : World} {b : Nat} {p : CP} {n e s : Nat} (h : CT w b p (((n - 1) * 11 + e) * 2 + s)) (h1 : 1 ≤ n) (h2 : n < 61) (h3 : e < 11) (h4 : s < 2) (v : Int) : CTv (w.setCell ⟨b, 3 + e * 122 + n * 2 + s, none⟩ (.int .i64 v)) b p n e s v := by
  obtain ⟨cs, c1, c2⟩ := h
  have c3 := CTab_set c2 rfl h1 h2 h3 h4 (.int .i64 v)
  exact ⟨_, blk_set c1 _ _, c3.1, c3.2⟩
theorem CT.cell {w : World} {b q : Nat} {p : CP} (h : CT w b p q) (i : Nat) : w.frozen? ⟨b, i, none⟩ = false := by
  obtain ⟨cs, c1, c2⟩ := h
  exact blk_frozen c1 i
theorem CTv.ct {w : World} {b : Nat} {p : CP} {n e s : Nat} {v : Int} (h : CTv w b p n e s v) : CT w b p (((n - 1) * 11 + e) * 2 + s) := by
  obtain ⟨cs, c1, c2, c3⟩ := h
  exact ⟨cs, c1, c2⟩
theorem CTv.val {w : World} {b : Nat} {p : CP} {n e s : Nat} {v : Int} (h : CTv w b p n e s v) : w.cell? ⟨b, 3 + e * 122 + n * 2 + s, none⟩ = some (.int .i64 v) := by
  obtain ⟨cs, c1, c2, c3⟩ := h
  exact (blk_cell c1 _).trans c3
theorem CTv.done {w : World} {b : Nat} {p : CP} {n e s : Nat} {v : Int} (h : CTv w b p n e s v) (h1 : 1 ≤ n) (h2 : n < 61) (h3 : e < 11) (h4 : s < 2) (hv : v = cst p e n s) : CT w b p (((n - 1) * 11 + e) * 2 + s + 1) := by
  obtain ⟨cs, c1, c2, c3⟩ := h
  subst hv
  exact ⟨cs, c1, CTab_done c2 rfl h1 h2 h3 h4 c3⟩
theorem CTv.below {w w' : World} {b : Nat} {p : CP} {n e s : Nat} {v : Int} (h : CTv w b p n e s v) (hb : Below w.heap.size w w') : CTv w' b p n e s v := by
  obtain ⟨cs, h1, h2⟩ := h
  exact ⟨cs, Hx.b_below hb h1, h2⟩
/-- All costs are there. -/
def Cst (w : World) (b : Nat) (p : CP) : Prop := CT w b p 1320
theorem CT.any {w : World} {b q : Nat} {p : CP} (h : CT w b p q) {i : Nat} (hi : i < 1345) : ∃ v, w.cell? ⟨b, i, none⟩ = some v := by
  obtain ⟨cs, c1, c2⟩ := h
  exact ⟨cs[i]'(by rw [c2.1]; exact hi), (blk_cell c1 i).trans (Array.getElem?_eq_getElem _)⟩

set_option maxHeartbeats 8000000 in
set_option maxRecDepth 1000000 in
theorem newCoster.calls (p : CP) (hp : p.Ok) (w : World) :
    Calls Try.prog 73 #[.agg #[.int .i64 p.e, .int .i64 p.t, .int .i64 p.c]] w fun e_ w' => ∃ b, e_ = .returned (.pointer (some ⟨b, 0, none⟩)) ∧ w.heap.size ≤ b ∧ Cst w' b p ∧ Below w.heap.size w w' := by
  obtain ⟨hz, hsz⟩ := zero_of_info (P := Try.prog) (t := 130) (v := .agg (Array.replicate 1345 (.int .i64 0))) (n := 1345) (by kernel_rfl)
  obtain ⟨Z, hZ⟩ : ∃ Z : Array Value, Z = Array.replicate 1345 (.int .i64 0) := ⟨_, rfl⟩
  rw [← hZ] at hz
  have hZs : (Z.size < 3) = False := eq_false (by rw [hZ]; simp)
  have HZ := Aside0.mk (CTab_zero p)
  rw [← hZ] at HZ
  clear hZ
  have HP := Aside0.mk hp
  clear hp
  have zs1 := size127
  have zs2 := size126
  obtain ⟨b, hb⟩ : ∃ b, b = w.heap.size + 1 := ⟨_, rfl⟩
  have HBB := Aside0.mk hb
  go_enter Try.func73, Try.ntmps73
  go_wp2
  rw [← hb]
  clear hb
  go_loopg [4] 60 (fun k v4 w' => ∃ n : Nat, v4 = .int .i64 (n : Int) ∧ Aside0 (1 ≤ n ∧ n + k = 61) ∧ Aside0 (CT w' b p ((n - 1) * 22)) ∧ Aside0 (Below w.heap.size w w'))
  case atStart => exact ⟨1, rfl, ⟨by omega⟩, ⟨⟨_, by have h_ := blk_new (w.alloc (.cells #[.int .i64 p.e, .int .i64 p.t, .int .i64 p.c] 41 (0, 0))) (.cells (((Z.setIfInBounds 0 (.int .i64 p.e)).setIfInBounds 1 (.int .i64 p.t)).setIfInBounds 2 (.int .i64 p.c)) 130 (0, 0)); rw [show (w.alloc (.cells #[.int .i64 p.e, .int .i64 p.t, .int .i64 p.c] 41 (0, 0))).heap.size = w.heap.size + 1 from Array.size_push _] at h_; rw [HBB.out]; exact h_, HZ.out⟩⟩, ⟨by repeat (first | exact Below.refl _ _ | refine below_alloc ?_ _)⟩⟩
  case round =>
    obtain ⟨n, rfl, HK, HT, HB⟩ := hrel
    by_cases hlt : n ≤ 60
    · have d1 : decide ((n : Int) ≤ 60) = true := decide_eq_true (by omega)
      have d1' : ((n : Int) ≤ 60) = True := eq_true (by omega)
      have HL := Aside0.mk hlt
      clear hlt
      go_wp2
      go_loopg [15] 11 (fun k v15 w' => ∃ e : Nat, v15 = .int .i64 (e : Int) ∧ Aside0 (e + k = 11) ∧ Aside0 (CT w' b p ((n - 1) * 22 + e * 2)) ∧ Aside0 (Below w.heap.size w w'))
      case atStart => exact ⟨0, rfl, ⟨by omega⟩, HT, HB⟩
      case round =>
        clear HT HB
        obtain ⟨e, rfl, HK2, HT, HB⟩ := hrel
        by_cases hle : e < 11
        · have d2 : decide ((e : Int) < 11) = true := decide_eq_true (by omega)
          have d2' : ((e : Int) < 11) = True := eq_true (by omega)
          have e0' : ((0 : Int) ≤ (e : Int)) = True := eq_true (by omega)
          have n0' : ((0 : Int) ≤ (n : Int)) = True := eq_true (by omega)
          have n1' : ((n : Int) < 61) = True := eq_true (by have := HL.out; omega)
          have HL2 := Aside0.mk hle
          clear hle
          go_wp2
          go_loopg [18] 2 (fun k v18 w' => ∃ s : Nat, v18 = .int .i64 (s : Int) ∧ Aside0 (s + k = 2) ∧ Aside0 (CT w' b p (((n - 1) * 11 + e) * 2 + s)) ∧ Aside0 (Below w.heap.size w w'))
          case atStart => exact ⟨0, rfl, ⟨by omega⟩, ⟨by have h_ := HT.out; rw [show (n - 1) * 22 + e * 2 = ((n - 1) * 11 + e) * 2 + 0 by omega] at h_; exact h_⟩, HB⟩
          case round =>
            clear HT HB
            obtain ⟨s, rfl, HK3, HT, HB⟩ := hrel
            by_cases hls : s < 2
            · have d3 : decide ((s : Int) < 2) = true := decide_eq_true (by omega)
              have d3' : ((s : Int) < 2) = True := eq_true (by omega)
              have s0' : ((0 : Int) ≤ (s : Int)) = True := eq_true (by omega)
              have HL3 := Aside0.mk hls
              obtain ⟨u, gu⟩ := HT.out.any (i := 3 + e * 122 + n * 2 + s) (by have := HL.out; have := HL2.out; omega)
              have fu := HT.out.cell (3 + e * 122 + n * 2 + s)
              have HV := Aside0.mk (HT.out.put HK.out.1 (by have := HL.out; omega) HL2.out HL3.out cNever)
              have HB2 := Aside0.mk (below_set (g := b) (j := 3 + e * 122 + n * 2 + s) (v := .int .i64 cNever) HB.out (by have := HBB.out; omega))
              clear hls
              go_wp2
              go_loopg [7] n (fun k v7 w' => ∃ f : Nat, v7 = .int .i64 ((f : Int) + 1) ∧ Aside0 (f + k = n) ∧ Aside0 ((e = 0 → f = 0) ∧ CTv w' b p n e s (mnF (cFst p e n s) f)) ∧ Aside0 (Below w.heap.size w w'))
              case atStart => exact ⟨0, rfl, ⟨by omega⟩, ⟨fun _ => rfl, HV.out⟩, HB2⟩
              case round =>
                clear HT HB gu fu HV HB2
                obtain ⟨f0, rfl, HK4, HT, HB⟩ := hrel
                by_cases hlf : f0 < n ∧ 0 < e
                · obtain ⟨f, hf⟩ : ∃ f, f = f0 + 1 := ⟨_, rfl⟩
                  have hf2 : (f0 : Int) + 1 = (f : Int) := by omega
                  rw [hf2]
                  have d4 : decide ((f : Int) ≤ (n : Int)) = true := decide_eq_true (by omega)
                  have d5 : decide ((0 : Int) < (e : Int)) = true := decide_eq_true (by omega)
                  have d6 : (f ≤ n) = True := eq_true (by omega)
                  have d7 : (0 < e) = True := eq_true (by omega)
                  have HL4 := Aside0.mk (And.intro hlf hf)
                  obtain ⟨m, hm⟩ : ∃ m, m = mnF (cFst p e n s) f0 := ⟨_, rfl⟩
                  obtain ⟨x, hx⟩ : ∃ x, x = cFst p e n s f := ⟨_, rfl⟩
                  have gm := HT.out.2.val
                  have fm := HT.out.2.ct.cell (3 + e * 122 + n * 2 + s)
                  rw [← hm] at gm
                  have FC : Aside0 (∀ W, Below wr.heap.size wr W → Calls Try.prog 113 #[.pointer (some ⟨b, 0, none⟩), .int .i64 (e : Int), .int .i64 (n : Int), .int .i64 (s : Int), .int .i64 (f : Int)] W fun e_ w' => e_ = .returned (.int .i64 x) ∧ Drawn0 W w') := ⟨by
                    intro W hW
                    have h_ := HT.out.2.ct.below hW
                    have l1 := HL.out
                    have l2 := HL2.out
                    have l3 := HL3.out
                    have l4 := HL4.out
                    rw [hx]
                    exact first.calls W b p e n s f _ _ HP.out (by omega) ⟨cst_lo HP.out _ _ _, cst_hi _ _ _ _, cst_lo HP.out _ _ _, cst_hi _ _ _ _⟩ h_.pe.1 h_.pe.2.1 h_.pe.2.2 (h_.get (n := f - 1) (e := e - 1) (s := 1) (by omega) (by omega) (by omega) (by omega)) (h_.get (n := n - f) (e := e) (s := 0) (by omega) (by omega) (by omega) (by omega))⟩
                  have HM := Aside0.mk (And.intro hm hx)
                  clear hlf hf hf2 hm hx
                  go_upto_region 15 with fail
                  refine start_ (n := 27) (S := fun w' => w'.cell? ⟨b, 3 + e * 122 + n * 2 + s, none⟩ = some (.int .i64 m)) (ds := [26]) #[false, false, false, false, false, false, false, false, false, false, false, false, false, false, false, false, false, false, false, false, false, false, false, false, false, false, false] (by kernel_rfl) rfl rfl (gm) (fun hHeld => ?_)
                  refine pure_ (i := 0) (N := some 39) (v := ?_) (a' := ?_) #[true, false, false, false, false, false, false, false, false, false, false, false, false, false, false, false, false, false, false, false, false, false, false, false, false, false, false] rfl rfl (by kernel_rfl) (fun _ _ _ h => h) (Or.inl ⟨by rfl, ?_⟩) ?_ ?_
                  rotate_left
                  · intro w'
                    go_simp
                    with_reducible rfl
                  rotate_left
                  · simp only [Act.put, List.setIfInBounds_toArray, List.set_cons_zero, List.set_cons_succ, i64_w, i32_w]
                    rfl
                  refine pure_ (i := 1) (N := some 40) (v := ?_) (a' := ?_) #[true, true, false, false, false, false, false, false, false, false, false, false, false, false, false, false, false, false, false, false, false, false, false, false, false, false, false] rfl rfl (by kernel_rfl) (fun _ _ _ h => h) (Or.inl ⟨by rfl, ?_⟩) ?_ ?_
                  rotate_left
                  · intro w'
                    go_simp
                    with_reducible rfl
                  rotate_left
                  · simp only [Act.put, List.setIfInBounds_toArray, List.set_cons_zero, List.set_cons_succ, i64_w, i32_w]
                    rfl
                  refine pure_ (i := 2) (N := some 41) (v := ?_) (a' := ?_) #[true, true, true, false, false, false, false, false, false, false, false, false, false, false, false, false, false, false, false, false, false, false, false, false, false, false, false] rfl rfl (by kernel_rfl) (fun _ _ _ h => h) (Or.inl ⟨by rfl, ?_⟩) ?_ ?_
                  rotate_left
                  · intro w'
                    go_simp
                    with_reducible rfl
                  rotate_left
                  · simp only [Act.put, List.setIfInBounds_toArray, List.set_cons_zero, List.set_cons_succ, i64_w, i32_w]
                    rfl
                  refine pure_ (i := 3) (N := some 42) (v := ?_) (a' := ?_) #[true, true, true, true, false, false, false, false, false, false, false, false, false, false, false, false, false, false, false, false, false, false, false, false, false, false, false] rfl rfl (by kernel_rfl) (fun _ _ _ h => h) (Or.inl ⟨by rfl, ?_⟩) ?_ ?_
                  rotate_left
                  · intro w'
                    go_simp
                    with_reducible rfl
                  rotate_left
                  · simp only [Act.put, List.setIfInBounds_toArray, List.set_cons_zero, List.set_cons_succ, i64_w, i32_w]
                    rfl
                  refine pure_ (i := 4) (N := some 43) (v := ?_) (a' := ?_) #[true, true, true, true, true, false, false, false, false, false, false, false, false, false, false, false, false, false, false, false, false, false, false, false, false, false, false] rfl rfl (by kernel_rfl) (fun _ _ _ h => h) (Or.inl ⟨by rfl, ?_⟩) ?_ ?_
                  rotate_left
                  · intro w'
                    go_simp
                    with_reducible rfl
                  rotate_left
                  · simp only [Act.put, List.setIfInBounds_toArray, List.set_cons_zero, List.set_cons_succ, i64_w, i32_w]
                    rfl
                  refine pure_ (i := 5) (N := some 44) (v := ?_) (a' := ?_) #[true, true, true, true, true, true, false, false, false, false, false, false, false, false, false, false, false, false, false, false, false, false, false, false, false, false, false] rfl rfl (by kernel_rfl) (fun _ _ _ h => h) (Or.inl ⟨by rfl, ?_⟩) ?_ ?_
                  rotate_left
                  · intro w'
                    go_simp
                    with_reducible rfl
                  rotate_left
                  · simp only [Act.put, List.setIfInBounds_toArray, List.set_cons_zero, List.set_cons_succ, i64_w, i32_w]
                    rfl
                  refine pure_ (i := 6) (N := some 45) (v := ?_) (a' := ?_) #[true, true, true, true, true, true, true, false, false, false, false, false, false, false, false, false, false, false, false, false, false, false, false, false, false, false, false] rfl rfl (by kernel_rfl) (fun _ _ _ h => h) (Or.inl ⟨by rfl, ?_⟩) ?_ ?_
                  rotate_left
                  · intro w'
                    go_simp
                    with_reducible rfl
                  rotate_left
                  · simp only [Act.put, List.setIfInBounds_toArray, List.set_cons_zero, List.set_cons_succ, i64_w, i32_w]
                    rfl
                  refine pure_ (i := 7) (N := some 46) (v := ?_) (a' := ?_) #[true, true, true, true, true, true, true, true, false, false, false, false, false, false, false, false, false, false, false, false, false, false, false, false, false, false, false] rfl rfl (by kernel_rfl) (fun _ _ _ h => h) (Or.inl ⟨by rfl, ?_⟩) ?_ ?_
                  rotate_left
                  · intro w'
                    go_simp
                    with_reducible rfl
                  rotate_left
                  · simp only [Act.put, List.setIfInBounds_toArray, List.set_cons_zero, List.set_cons_succ, i64_w, i32_w]
                    rfl
                  refine pure_ (i := 8) (N := some 47) (v := ?_) (a' := ?_) #[true, true, true, true, true, true, true, true, true, false, false, false, false, false, false, false, false, false, false, false, false, false, false, false, false, false, false] rfl rfl (by kernel_rfl) (fun _ _ _ h => h) (Or.inl ⟨by rfl, ?_⟩) ?_ ?_
                  rotate_left
                  · intro w'
                    go_simp
                    with_reducible rfl
                  rotate_left
                  · simp only [Act.put, List.setIfInBounds_toArray, List.set_cons_zero, List.set_cons_succ, i64_w, i32_w]
                    rfl
                  refine pure_ (i := 9) (N := some 48) (v := ?_) (a' := ?_) #[true, true, true, true, true, true, true, true, true, true, false, false, false, false, false, false, false, false, false, false, false, false, false, false, false, false, false] rfl rfl (by kernel_rfl) (fun _ _ _ h => h) (Or.inl ⟨by rfl, ?_⟩) ?_ ?_
                  rotate_left
                  · intro w'
                    go_simp
                    with_reducible rfl
                  rotate_left
                  · simp only [Act.put, List.setIfInBounds_toArray, List.set_cons_zero, List.set_cons_succ, i64_w, i32_w]
                    rfl
                  refine pure_ (i := 10) (N := some 49) (v := ?_) (a' := ?_) #[true, true, true, true, true, true, true, true, true, true, true, false, false, false, false, false, false, false, false, false, false, false, false, false, false, false, false] rfl rfl (by kernel_rfl) (fun _ _ _ h => h) (Or.inl ⟨by rfl, ?_⟩) ?_ ?_
                  rotate_left
                  · intro w'
                    go_simp
                    with_reducible rfl
                  rotate_left
                  · simp only [Act.put, List.setIfInBounds_toArray, List.set_cons_zero, List.set_cons_succ, i64_w, i32_w]
                    rfl
                  refine pure_ (i := 11) (N := some 50) (v := ?_) (a' := ?_) #[true, true, true, true, true, true, true, true, true, true, true, true, false, false, false, false, false, false, false, false, false, false, false, false, false, false, false] rfl rfl (by kernel_rfl) (fun _ _ _ h => h) (Or.inl ⟨by rfl, ?_⟩) ?_ ?_
                  rotate_left
                  · intro w'
                    go_simp
                    with_reducible rfl
                  rotate_left
                  · simp only [Act.put, List.setIfInBounds_toArray, List.set_cons_zero, List.set_cons_succ, i64_w, i32_w]
                    rfl
                  refine pure_ (i := 12) (N := some 51) (v := ?_) (a' := ?_) #[true, true, true, true, true, true, true, true, true, true, true, true, true, false, false, false, false, false, false, false, false, false, false, false, false, false, false] rfl rfl (by kernel_rfl) (fun _ _ _ h => h) (Or.inl ⟨by rfl, ?_⟩) ?_ ?_
                  rotate_left
                  · intro w'
                    go_simp
                    with_reducible rfl
                  rotate_left
                  · simp only [Act.put, List.setIfInBounds_toArray, List.set_cons_zero, List.set_cons_succ, i64_w, i32_w]
                    rfl
                  refine pure_ (i := 14) (N := some 53) (v := ?_) (a' := ?_) #[true, true, true, true, true, true, true, true, true, true, true, true, true, false, true, false, false, false, false, false, false, false, false, false, false, false, false] rfl rfl (by kernel_rfl) (fun _ _ _ h => h) (Or.inl ⟨by rfl, ?_⟩) ?_ ?_
                  rotate_left
                  · intro w'
                    go_simp
                    with_reducible rfl
                  rotate_left
                  · simp only [Act.put, List.setIfInBounds_toArray, List.set_cons_zero, List.set_cons_succ, i64_w, i32_w]
                    rfl
                  refine pure_ (i := 15) (N := some 54) (v := ?_) (a' := ?_) #[true, true, true, true, true, true, true, true, true, true, true, true, true, false, true, true, false, false, false, false, false, false, false, false, false, false, false] rfl rfl (by kernel_rfl) (fun _ _ _ h => h) (Or.inl ⟨by rfl, ?_⟩) ?_ ?_
                  rotate_left
                  · intro w'
                    go_simp
                    with_reducible rfl
                  rotate_left
                  · simp only [Act.put, List.setIfInBounds_toArray, List.set_cons_zero, List.set_cons_succ, i64_w, i32_w]
                    rfl
                  refine pure_ (i := 16) (N := some 55) (v := ?_) (a' := ?_) #[true, true, true, true, true, true, true, true, true, true, true, true, true, false, true, true, true, false, false, false, false, false, false, false, false, false, false] rfl rfl (by kernel_rfl) (fun _ _ _ h => h) (Or.inl ⟨by rfl, ?_⟩) ?_ ?_
                  rotate_left
                  · intro w'
                    go_simp
                    with_reducible rfl
                  rotate_left
                  · simp only [Act.put, List.setIfInBounds_toArray, List.set_cons_zero, List.set_cons_succ, i64_w, i32_w]
                    rfl
                  refine pure_ (i := 17) (N := some 56) (v := ?_) (a' := ?_) #[true, true, true, true, true, true, true, true, true, true, true, true, true, false, true, true, true, true, false, false, false, false, false, false, false, false, false] rfl rfl (by kernel_rfl) (fun _ _ _ h => h) (Or.inl ⟨by rfl, ?_⟩) ?_ ?_
                  rotate_left
                  · intro w'
                    go_simp
                    with_reducible rfl
                  rotate_left
                  · simp only [Act.put, List.setIfInBounds_toArray, List.set_cons_zero, List.set_cons_succ, i64_w, i32_w]
                    rfl
                  refine pure_ (i := 18) (N := some 57) (v := ?_) (a' := ?_) #[true, true, true, true, true, true, true, true, true, true, true, true, true, false, true, true, true, true, true, false, false, false, false, false, false, false, false] rfl rfl (by kernel_rfl) (fun _ _ _ h => h) (Or.inl ⟨by rfl, ?_⟩) ?_ ?_
                  rotate_left
                  · intro w'
                    go_simp
                    with_reducible rfl
                  rotate_left
                  · simp only [Act.put, List.setIfInBounds_toArray, List.set_cons_zero, List.set_cons_succ, i64_w, i32_w]
                    rfl
                  refine pure_ (i := 21) (N := some 60) (v := ?_) (a' := ?_) #[true, true, true, true, true, true, true, true, true, true, true, true, true, false, true, true, true, true, true, false, false, true, false, false, false, false, false] rfl rfl (by kernel_rfl) (fun _ _ _ h => h) (Or.inl ⟨by rfl, ?_⟩) ?_ ?_
                  rotate_left
                  · intro w'
                    go_simp
                    with_reducible rfl
                  rotate_left
                  · simp only [Act.put, List.setIfInBounds_toArray, List.set_cons_zero, List.set_cons_succ, i64_w, i32_w]
                    rfl
                  refine pure_ (i := 22) (N := some 61) (v := ?_) (a' := ?_) #[true, true, true, true, true, true, true, true, true, true, true, true, true, false, true, true, true, true, true, false, false, true, true, false, false, false, false] rfl rfl (by kernel_rfl) (fun _ _ _ h => h) (Or.inl ⟨by rfl, ?_⟩) ?_ ?_
                  rotate_left
                  · intro w'
                    go_simp
                    with_reducible rfl
                  rotate_left
                  · simp only [Act.put, List.setIfInBounds_toArray, List.set_cons_zero, List.set_cons_succ, i64_w, i32_w]
                    rfl
                  refine pure_ (i := 23) (N := some 62) (v := ?_) (a' := ?_) #[true, true, true, true, true, true, true, true, true, true, true, true, true, false, true, true, true, true, true, false, false, true, true, true, false, false, false] rfl rfl (by kernel_rfl) (fun _ _ _ h => h) (Or.inl ⟨by rfl, ?_⟩) ?_ ?_
                  rotate_left
                  · intro w'
                    go_simp
                    with_reducible rfl
                  rotate_left
                  · simp only [Act.put, List.setIfInBounds_toArray, List.set_cons_zero, List.set_cons_succ, i64_w, i32_w]
                    rfl
                  refine pure_ (i := 24) (N := some 63) (v := ?_) (a' := ?_) #[true, true, true, true, true, true, true, true, true, true, true, true, true, false, true, true, true, true, true, false, false, true, true, true, true, false, false] rfl rfl (by kernel_rfl) (fun _ _ _ h => h) (Or.inl ⟨by rfl, ?_⟩) ?_ ?_
                  rotate_left
                  · intro w'
                    go_simp
                    with_reducible rfl
                  rotate_left
                  · simp only [Act.put, List.setIfInBounds_toArray, List.set_cons_zero, List.set_cons_succ, i64_w, i32_w]
                    rfl
                  refine take_ (i := 13) (N := some 52) (v := ?_) (a' := ?_) #[true, true, true, true, true, true, true, true, true, true, true, true, true, true, true, true, true, true, true, false, false, true, true, true, true, false, false] rfl rfl (by kernel_rfl) (fun _ _ _ h => h) (Or.inl ⟨by rfl, ?_⟩) hHeld ?_ ?_
                  rotate_left
                  · intro w' s0
                    go_simp
                    with_reducible rfl
                  rotate_left
                  · simp only [Act.put, List.setIfInBounds_toArray, List.set_cons_zero, List.set_cons_succ, i64_w, i32_w]
                    rfl
                  refine one_ (i := 19) (N := some 58) #[true, true, true, true, true, true, true, true, true, true, true, true, true, true, true, true, true, true, true, true, false, true, true, true, true, false, false] rfl rfl (by kernel_rfl) (by decide) (fun K hK => ?_)
                  refine goes_ Try.func113 (by kernel_rfl) rfl #[.pointer (some ⟨b, 0, none⟩), .int .i64 (e : Int), .int .i64 (n : Int), .int .i64 (s : Int), .int .i64 (f : Int)] (by rfl) rfl rfl (by simp only [List.map_toArray, List.map_cons, List.map_nil]; rfl) ?_
                  with_reducible refine (FC.out _ (below_drew1 (Below.refl _ _))).mono ?_
                  rintro e_ w_1 ⟨rfl, hd_⟩
                  refine ⟨_, rfl, ?_⟩
                  have HD := Aside0.mk (Hx.undrew hd_.below)
                  have fm1 := (HT.out.2.ct.below HD.out).cell (3 + e * 122 + n * 2 + s)
                  clear hd_
                  refine hK.out _ _ (pw_cell_below HD.out gm) (fun hHeld => ?_)
                  clear hK K
                  refine norm_ (a' := ?_) ?_ ?_
                  rotate_left
                  · show Act.put _ (some 58) _ = _
                    simp only [Act.put, List.setIfInBounds_toArray, List.set_cons_zero, List.set_cons_succ, i64_w, i32_w]
                    rfl
                  refine pure_ (i := 20) (N := some 59) (v := ?_) (a' := ?_) #[true, true, true, true, true, true, true, true, true, true, true, true, true, true, true, true, true, true, true, true, true, true, true, true, true, false, false] rfl rfl (by kernel_rfl) (fun _ _ _ h => h) (Or.inl ⟨by rfl, ?_⟩) ?_ ?_
                  rotate_left
                  · intro w'
                    go_simp
                    with_reducible rfl
                  rotate_left
                  · simp only [Act.put, List.setIfInBounds_toArray, List.set_cons_zero, List.set_cons_succ, i64_w, i32_w]
                    rfl
                  refine pure_ (i := 25) (N := some 64) (v := ?_) (a' := ?_) #[true, true, true, true, true, true, true, true, true, true, true, true, true, true, true, true, true, true, true, true, true, true, true, true, true, true, false] rfl rfl (by kernel_rfl) (fun _ _ _ h => h) (Or.inl ⟨by rfl, ?_⟩) ?_ ?_
                  rotate_left
                  · intro w'
                    go_simp
                    with_reducible rfl
                  rotate_left
                  · simp only [Act.put, List.setIfInBounds_toArray, List.set_cons_zero, List.set_cons_succ, i64_w, i32_w]
                    rfl
                  refine last_ (i := 26) (N := none) #[true, true, true, true, true, true, true, true, true, true, true, true, true, true, true, true, true, true, true, true, true, true, true, true, true, true, true] rfl rfl (by kernel_rfl) (by decide) (fun K hK => ?_)
                  refine skip_ (w1 := ?_) (by rfl) rfl ?_ ?_
                  rotate_left
                  · go_simp
                    rfl
                  refine hK.out _ _ ?_
                  clear hK K
                  refine done_ (by kernel_rfl) ?_
                  have wf : IntKind.i64.wrap ((f : Int) + 1) = (f : Int) + 1 := Hw.wrap_w (by omega) (by have := HL4.out; have := HL.out; omega)
                  go_wp2
                  all_goals
                    go_roundg (n - f)
                    case measure => have := HK4.out; have := HL4.out; omega
                    case rel =>
                      have h_ : mnF (cFst p e n s) f = min m x := by rw [HM.out.1, HM.out.2, HL4.out.2]; rfl
                      refine ⟨f, rfl, ⟨by have := HK4.out; have := HL4.out; omega⟩, ⟨fun _ => by have := HL4.out; omega, ?_⟩, ⟨below_set (Hx.bb_below HD.out HB.out) (by have := HBB.out; omega)⟩⟩
                      first
                        | (rw [h_, show min m x = x by omega]; exact (HT.out.2.ct.below HD.out).put HK.out.1 (by have := HL.out; omega) HL2.out HL3.out _)
                        | (rw [h_, show min m x = m by omega]; exact (HT.out.2.ct.below HD.out).put HK.out.1 (by have := HL.out; omega) HL2.out HL3.out _)
                · have HE : Aside0 (CT wr b p (((n - 1) * 11 + e) * 2 + s + 1)) := ⟨HT.out.2.done HK.out.1 (by have := HL.out; omega) HL2.out HL3.out (by
                    have h1 := HT.out.1
                    have h2 := HK4.out
                    have h3 := HK.out.1
                    by_cases he : e = 0
                    · rw [h1 he, he, cst_none p s h3]; rfl
                    · rw [cst_eq p s h3 (by omega), show f0 = n by omega])⟩
                  have ws : IntKind.i64.wrap ((s : Int) + 1) = ((s + 1 : Nat) : Int) := Hw.wrap_w (by omega) (by have := HL3.out; omega)
                  have HN := Aside0.mk hlf
                  have h1 := HT.out.1
                  have HF := Aside0.mk HT.out.1
                  clear HT h1
                  by_cases hfn : f0 < n
                  · have d4 : decide ((f0 : Int) + 1 ≤ (n : Int)) = true := decide_eq_true (by omega)
                    have d6 : ((f0 : Int) + 1 ≤ (n : Int)) = True := eq_true (by omega)
                    have d5 : decide ((0 : Int) < (e : Int)) = false := decide_eq_false (by omega)
                    have d7 : (0 < e) = False := eq_false (by omega)
                    clear hlf hfn
                    go_wp2
                    go_roundg (2 - (s + 1))
                    case measure => have := HK3.out; have := HL3.out; omega
                    case rel => exact ⟨s + 1, rfl, ⟨by have := HK3.out; have := HL3.out; omega⟩, HE, HB⟩
                  · have d4 : decide ((f0 : Int) + 1 ≤ (n : Int)) = false := decide_eq_false (by omega)
                    have d6 : ((f0 : Int) + 1 ≤ (n : Int)) = False := eq_false (by omega)
                    clear hlf hfn
                    go_wp2
                    go_roundg (2 - (s + 1))
                    case measure => have := HK3.out; have := HL3.out; omega
                    case rel => exact ⟨s + 1, rfl, ⟨by have := HK3.out; have := HL3.out; omega⟩, HE, HB⟩
            · have d3 : decide ((s : Int) < 2) = false := decide_eq_false (by omega)
              have d3' : ((s : Int) < 2) = False := eq_false (by omega)
              have we : IntKind.i64.wrap ((e : Int) + 1) = ((e + 1 : Nat) : Int) := Hw.wrap_w (by omega) (by have := HL2.out; omega)
              have HE : Aside0 (CT wr b p ((n - 1) * 22 + (e + 1) * 2)) := ⟨by have h_ := HT.out; rw [show ((n - 1) * 11 + e) * 2 + s = (n - 1) * 22 + (e + 1) * 2 by have := HK3.out; omega] at h_; exact h_⟩
              clear hls HT
              go_wp2
              go_roundg (11 - (e + 1))
              case measure => have := HK2.out; have := HL2.out; omega
              case rel => exact ⟨e + 1, rfl, ⟨by have := HK2.out; have := HL2.out; omega⟩, HE, HB⟩
        · have d2 : decide ((e : Int) < 11) = false := decide_eq_false (by omega)
          have d2' : ((e : Int) < 11) = False := eq_false (by omega)
          have wn : IntKind.i64.wrap ((n : Int) + 1) = ((n + 1 : Nat) : Int) := Hw.wrap_w (by omega) (by have := HL.out; omega)
          have HE : Aside0 (CT wr b p ((n + 1 - 1) * 22)) := ⟨by have h_ := HT.out; rw [show (n - 1) * 22 + e * 2 = (n + 1 - 1) * 22 by have := HK2.out; have := HK.out; omega] at h_; exact h_⟩
          clear hle HT
          go_wp2
          go_roundg (60 - n)
          case measure => have := HK.out; have := HL.out; omega
          case rel => exact ⟨n + 1, rfl, ⟨by have := HK.out; have := HL.out; omega⟩, HE, HB⟩
    · have d1 : decide ((n : Int) ≤ 60) = false := decide_eq_false (by omega)
      have d1' : ((n : Int) ≤ 60) = False := eq_false (by omega)
      have HE : Aside0 (Cst wr b p) := ⟨by have h_ := HT.out; rw [show (n - 1) * 22 = 1320 by have := HK.out; omega] at h_; exact h_⟩
      clear hlt HT
      go_wp2
      go_ret
      exact ⟨b, rfl, by have := HBB.out; omega, HE.out, HB.out⟩


-- FOR (*impl.coster).floors
-- CALLS (*impl.coster).first ; impl.newCoster
-- USES info int
-- USES info []int

set_option maxHeartbeats 8000000 in
set_option maxRecDepth 1000000 in
theorem cfloors.calls (p : CP) (hp : p.Ok) (w : World) (b e n s : Nat) (hC : Cst w b p) (he : 1 ≤ e ∧ e ≤ 10 ∧ n ≤ 60 ∧ s ≤ 1) :
    Calls Try.prog 114 #[.pointer (some ⟨b, 0, none⟩), .int .i64 (e : Int), .int .i64 (n : Int), .int .i64 (s : Int)] w fun e_ w' => ∃ v, e_ = .returned v ∧ Kd.R (Kd.int .i64) 3 w' w.heap.size (fun _ => True) v (cFloors p e n s) ∧ Below w.heap.size w w' := by
  have HP := Aside0.mk hp
  have HC := Aside0.mk hC
  have HE := Aside0.mk he
  have zs1 := size127
  have zs2 := size126
  have e0' : ((0 : Int) ≤ (e : Int)) = True := eq_true (by omega)
  have e1' : ((e : Int) < 11) = True := eq_true (by omega)
  have n0' : ((0 : Int) ≤ (n : Int)) = True := eq_true (by omega)
  have n1' : ((n : Int) < 61) = True := eq_true (by omega)
  have s0' : ((0 : Int) ≤ (s : Int)) = True := eq_true (by omega)
  have s1' : ((s : Int) < 2) = True := eq_true (by omega)
  obtain ⟨c, hc⟩ : ∃ c, c = cst p e n s := ⟨_, rfl⟩
  obtain ⟨q, hq⟩ : ∃ q : Nat → Bool, q = fun f => decide (cFst p e n s f = cst p e n s) := ⟨_, rfl⟩
  have HQ := Aside0.mk (And.intro hc hq)
  unfold cFloors
  rw [← hq]
  clear hp hC he hc hq
  go_enter Try.func114, Try.ntmps114
  go_wp2
  go_loopg [9, 10] n (fun k v9 v10 w' => ∃ f : Nat, v10 = .int .i64 ((f : Int) + 1) ∧ Aside0 (f + k = n) ∧ Aside0 (Kd.R (Kd.int .i64) 3 w' w.heap.size (fun _ => True) v9 (flr q f)) ∧ Aside0 (Below w.heap.size w w'))
  case atStart => exact ⟨0, rfl, ⟨by omega⟩, ⟨Hw.R_empty _ _ _ _ _ (Nat.le_refl _) trivial⟩, ⟨by repeat (first | exact Below.refl _ _ | refine below_alloc ?_ _)⟩⟩
  case round =>
    obtain ⟨f0, rfl, HK, HO, HB⟩ := hrel
    by_cases hlf : f0 < n
    · obtain ⟨f, hf⟩ : ∃ f, f = f0 + 1 := ⟨_, rfl⟩
      have hf2 : (f0 : Int) + 1 = (f : Int) := by omega
      rw [hf2]
      have d4 : decide ((f : Int) ≤ (n : Int)) = true := decide_eq_true (by omega)
      have d6 : (f ≤ n) = True := eq_true (by omega)
      obtain ⟨x, hx⟩ : ∃ x, x = cFst p e n s f := ⟨_, rfl⟩
      obtain ⟨xs, hxs⟩ : ∃ xs, xs = flr q f0 := ⟨_, rfl⟩
      rw [← hxs] at HO
      have gc := (HC.out.below HB.out).get (n := n) (e := e) (s := s) (by have := HE.out; omega) (by have := HE.out; omega) (by have := HE.out; omega) (by have := HE.out; omega)
      rw [← HQ.out.1] at gc
      have FC : Aside0 (∀ W, Below w.heap.size w W → Calls Try.prog 113 #[.pointer (some ⟨b, 0, none⟩), .int .i64 (e : Int), .int .i64 (n : Int), .int .i64 (s : Int), .int .i64 (f : Int)] W fun e_ w' => e_ = .returned (.int .i64 x) ∧ Drawn0 W w') := ⟨by
        intro W hW
        have h_ := HC.out.below hW
        have l1 := HE.out
        rw [hx]
        exact first.calls W b p e n s f _ _ HP.out (by omega) ⟨cst_lo HP.out _ _ _, cst_hi _ _ _ _, cst_lo HP.out _ _ _, cst_hi _ _ _ _⟩ h_.pe.1 h_.pe.2.1 h_.pe.2.2 (h_.get (n := f - 1) (e := e - 1) (s := 1) (by omega) (by omega) (by omega) (by omega)) (h_.get (n := n - f) (e := e) (s := 0) (by omega) (by omega) (by omega) (by omega))⟩
      have HM := Aside0.mk (And.intro hx (And.intro hxs (And.intro hf hlf)))
      have wf : IntKind.i64.wrap ((f : Int) + 1) = (f : Int) + 1 := Hw.wrap_w (by omega) (by have := HM.out; have := HE.out; omega)
      clear hlf hf hf2 hx hxs
      go_upto_region 5 with fail
      refine start_ (n := 17) (S := fun w' => w'.cell? ⟨b, 3 + e * 122 + n * 2 + s, none⟩ = some (.int .i64 c)) (ds := []) #[false, false, false, false, false, false, false, false, false, false, false, false, false, false, false, false, false] (by kernel_rfl) rfl rfl (gc) (fun hHeld => ?_)
      refine pure_ (i := 0) (N := some 17) (v := ?_) (a' := ?_) #[true, false, false, false, false, false, false, false, false, false, false, false, false, false, false, false, false] rfl rfl (by kernel_rfl) (fun _ _ _ h => h) (Or.inl ⟨by rfl, ?_⟩) ?_ ?_
      rotate_left
      · intro w'
        go_simp
        with_reducible rfl
      rotate_left
      · simp only [Act.put, List.setIfInBounds_toArray, List.set_cons_zero, List.set_cons_succ, i64_w, i32_w]
        rfl
      refine pure_ (i := 1) (N := some 18) (v := ?_) (a' := ?_) #[true, true, false, false, false, false, false, false, false, false, false, false, false, false, false, false, false] rfl rfl (by kernel_rfl) (fun _ _ _ h => h) (Or.inl ⟨by rfl, ?_⟩) ?_ ?_
      rotate_left
      · intro w'
        go_simp
        with_reducible rfl
      rotate_left
      · simp only [Act.put, List.setIfInBounds_toArray, List.set_cons_zero, List.set_cons_succ, i64_w, i32_w]
        rfl
      refine pure_ (i := 2) (N := some 19) (v := ?_) (a' := ?_) #[true, true, true, false, false, false, false, false, false, false, false, false, false, false, false, false, false] rfl rfl (by kernel_rfl) (fun _ _ _ h => h) (Or.inl ⟨by rfl, ?_⟩) ?_ ?_
      rotate_left
      · intro w'
        go_simp
        with_reducible rfl
      rotate_left
      · simp only [Act.put, List.setIfInBounds_toArray, List.set_cons_zero, List.set_cons_succ, i64_w, i32_w]
        rfl
      refine pure_ (i := 3) (N := some 20) (v := ?_) (a' := ?_) #[true, true, true, true, false, false, false, false, false, false, false, false, false, false, false, false, false] rfl rfl (by kernel_rfl) (fun _ _ _ h => h) (Or.inl ⟨by rfl, ?_⟩) ?_ ?_
      rotate_left
      · intro w'
        go_simp
        with_reducible rfl
      rotate_left
      · simp only [Act.put, List.setIfInBounds_toArray, List.set_cons_zero, List.set_cons_succ, i64_w, i32_w]
        rfl
      refine pure_ (i := 4) (N := some 21) (v := ?_) (a' := ?_) #[true, true, true, true, true, false, false, false, false, false, false, false, false, false, false, false, false] rfl rfl (by kernel_rfl) (fun _ _ _ h => h) (Or.inl ⟨by rfl, ?_⟩) ?_ ?_
      rotate_left
      · intro w'
        go_simp
        with_reducible rfl
      rotate_left
      · simp only [Act.put, List.setIfInBounds_toArray, List.set_cons_zero, List.set_cons_succ, i64_w, i32_w]
        rfl
      refine pure_ (i := 6) (N := some 23) (v := ?_) (a' := ?_) #[true, true, true, true, true, false, true, false, false, false, false, false, false, false, false, false, false] rfl rfl (by kernel_rfl) (fun _ _ _ h => h) (Or.inl ⟨by rfl, ?_⟩) ?_ ?_
      rotate_left
      · intro w'
        go_simp
        with_reducible rfl
      rotate_left
      · simp only [Act.put, List.setIfInBounds_toArray, List.set_cons_zero, List.set_cons_succ, i64_w, i32_w]
        rfl
      refine pure_ (i := 7) (N := some 24) (v := ?_) (a' := ?_) #[true, true, true, true, true, false, true, true, false, false, false, false, false, false, false, false, false] rfl rfl (by kernel_rfl) (fun _ _ _ h => h) (Or.inl ⟨by rfl, ?_⟩) ?_ ?_
      rotate_left
      · intro w'
        go_simp
        with_reducible rfl
      rotate_left
      · simp only [Act.put, List.setIfInBounds_toArray, List.set_cons_zero, List.set_cons_succ, i64_w, i32_w]
        rfl
      refine pure_ (i := 8) (N := some 25) (v := ?_) (a' := ?_) #[true, true, true, true, true, false, true, true, true, false, false, false, false, false, false, false, false] rfl rfl (by kernel_rfl) (fun _ _ _ h => h) (Or.inl ⟨by rfl, ?_⟩) ?_ ?_
      rotate_left
      · intro w'
        go_simp
        with_reducible rfl
      rotate_left
      · simp only [Act.put, List.setIfInBounds_toArray, List.set_cons_zero, List.set_cons_succ, i64_w, i32_w]
        rfl
      refine pure_ (i := 9) (N := some 26) (v := ?_) (a' := ?_) #[true, true, true, true, true, false, true, true, true, true, false, false, false, false, false, false, false] rfl rfl (by kernel_rfl) (fun _ _ _ h => h) (Or.inl ⟨by rfl, ?_⟩) ?_ ?_
      rotate_left
      · intro w'
        go_simp
        with_reducible rfl
      rotate_left
      · simp only [Act.put, List.setIfInBounds_toArray, List.set_cons_zero, List.set_cons_succ, i64_w, i32_w]
        rfl
      refine pure_ (i := 10) (N := some 27) (v := ?_) (a' := ?_) #[true, true, true, true, true, false, true, true, true, true, true, false, false, false, false, false, false] rfl rfl (by kernel_rfl) (fun _ _ _ h => h) (Or.inl ⟨by rfl, ?_⟩) ?_ ?_
      rotate_left
      · intro w'
        go_simp
        with_reducible rfl
      rotate_left
      · simp only [Act.put, List.setIfInBounds_toArray, List.set_cons_zero, List.set_cons_succ, i64_w, i32_w]
        rfl
      refine pure_ (i := 11) (N := some 28) (v := ?_) (a' := ?_) #[true, true, true, true, true, false, true, true, true, true, true, true, false, false, false, false, false] rfl rfl (by kernel_rfl) (fun _ _ _ h => h) (Or.inl ⟨by rfl, ?_⟩) ?_ ?_
      rotate_left
      · intro w'
        go_simp
        with_reducible rfl
      rotate_left
      · simp only [Act.put, List.setIfInBounds_toArray, List.set_cons_zero, List.set_cons_succ, i64_w, i32_w]
        rfl
      refine pure_ (i := 12) (N := some 29) (v := ?_) (a' := ?_) #[true, true, true, true, true, false, true, true, true, true, true, true, true, false, false, false, false] rfl rfl (by kernel_rfl) (fun _ _ _ h => h) (Or.inl ⟨by rfl, ?_⟩) ?_ ?_
      rotate_left
      · intro w'
        go_simp
        with_reducible rfl
      rotate_left
      · simp only [Act.put, List.setIfInBounds_toArray, List.set_cons_zero, List.set_cons_succ, i64_w, i32_w]
        rfl
      refine pure_ (i := 13) (N := some 30) (v := ?_) (a' := ?_) #[true, true, true, true, true, false, true, true, true, true, true, true, true, true, false, false, false] rfl rfl (by kernel_rfl) (fun _ _ _ h => h) (Or.inl ⟨by rfl, ?_⟩) ?_ ?_
      rotate_left
      · intro w'
        go_simp
        with_reducible rfl
      rotate_left
      · simp only [Act.put, List.setIfInBounds_toArray, List.set_cons_zero, List.set_cons_succ, i64_w, i32_w]
        rfl
      refine pure_ (i := 14) (N := some 31) (v := ?_) (a' := ?_) #[true, true, true, true, true, false, true, true, true, true, true, true, true, true, true, false, false] rfl rfl (by kernel_rfl) (fun _ _ _ h => h) (Or.inl ⟨by rfl, ?_⟩) ?_ ?_
      rotate_left
      · intro w'
        go_simp
        with_reducible rfl
      rotate_left
      · simp only [Act.put, List.setIfInBounds_toArray, List.set_cons_zero, List.set_cons_succ, i64_w, i32_w]
        rfl
      refine take_ (i := 15) (N := some 32) (v := ?_) (a' := ?_) #[true, true, true, true, true, false, true, true, true, true, true, true, true, true, true, true, false] rfl rfl (by kernel_rfl) (fun _ _ _ h => h) (Or.inl ⟨by rfl, ?_⟩) hHeld ?_ ?_
      rotate_left
      · intro w' s0
        go_simp
        with_reducible rfl
      rotate_left
      · simp only [Act.put, List.setIfInBounds_toArray, List.set_cons_zero, List.set_cons_succ, i64_w, i32_w]
        rfl
      refine one_ (i := 5) (N := some 22) #[true, true, true, true, true, true, true, true, true, true, true, true, true, true, true, true, false] rfl rfl (by kernel_rfl) (by decide) (fun K hK => ?_)
      refine goes_ Try.func113 (by kernel_rfl) rfl #[.pointer (some ⟨b, 0, none⟩), .int .i64 (e : Int), .int .i64 (n : Int), .int .i64 (s : Int), .int .i64 (f : Int)] (by rfl) rfl rfl (by simp only [List.map_toArray, List.map_cons, List.map_nil]; rfl) ?_
      with_reducible refine (FC.out _ (below_drew1 HB.out)).mono ?_
      rintro e_ w_1 ⟨rfl, hd_⟩
      refine ⟨_, rfl, ?_⟩
      have HD := Aside0.mk (Hx.undrew hd_.below)
      clear hd_
      have hB := Hx.bb_below HD.out HB.out
      have hO := Kd.R_below HO.out HD.out
      clear HO HB
      have HB := Aside0.mk hB
      have HO := Aside0.mk hO
      clear hB hO
      refine hK.out _ _ (pw_cell_below HD.out gc) (fun hHeld => ?_)
      clear hK K
      refine norm_ (a' := ?_) ?_ ?_
      rotate_left
      · show Act.put _ (some 22) _ = _
        simp only [Act.put, List.setIfInBounds_toArray, List.set_cons_zero, List.set_cons_succ, i64_w, i32_w]
        rfl
      refine pure_ (i := 16) (N := some 33) (v := ?_) (a' := ?_) #[true, true, true, true, true, true, true, true, true, true, true, true, true, true, true, true, true] rfl rfl (by kernel_rfl) (fun _ _ _ h => h) (Or.inl ⟨by rfl, ?_⟩) ?_ ?_
      rotate_left
      · intro w'
        go_simp
        with_reducible rfl
      rotate_left
      · simp only [Act.put, List.setIfInBounds_toArray, List.set_cons_zero, List.set_cons_succ, i64_w, i32_w]
        rfl
      refine done_ (by kernel_rfl) ?_
      by_cases hxc : x = c
      · have hxb : (x == c) = true := by rw [hxc]; simp
        have hqf : q f = true := by rw [HQ.out.2]; exact decide_eq_true (by rw [← HM.out.1, ← HQ.out.1]; exact hxc)
        obtain ⟨y, hy⟩ : ∃ y, y = xs ++ [(f : Int)] := ⟨_, rfl⟩
        have Ny := Aside0.mk hy
        have HF : Aside0 (flr q f = y) := ⟨by rw [hy, HM.out.2.2.1, flr, if_pos (by rw [← HM.out.2.2.1]; exact hqf), ← HM.out.2.1]⟩
        have HX := Aside0.mk hxc
        clear hxc hqf hy
        go_wp2_with (first | ((with_reducible refine gate_builtin (b := .append) (xs := #[.tmp 34, .tmp 36]) rfl ?_); at_builtin; refine Kd.R_append (Kd.int .i64) (w0 := w) w.heap.size rfl (.tmp 34) (.tmp 36) 46 3 (.int .i64 0) 8 rfl Try.underlying46 info3 rfl (by decide) (by omega) u9 xs (f : Int) [.int .i64 ((f : Int))] (fun _ => True) (fun _ => False) rfl rfl ?aP (fun _ hk => hk.elim) ?aF ?aO ?aB ?aS ?aL ?_; (case aP => exact rfl); (case aB => exact (by repeat (first | (with_reducible first | exact HB.out | apply below_alloc | apply pw_below_drewN | apply below_drew1) | exact HB.out))); (case aF => exact (fun _ _ => trivial)); (case aO => exact (by (with_reducible repeat (first | apply Kd.R_alloc | apply Kd.R_drewN | apply Kd.R_drew)); exact HO.out)); (case aS => exact (below_size (by repeat (first | (with_reducible first | exact HB.out | apply below_alloc | apply pw_below_drewN | apply below_drew1) | exact HB.out)))); (case aL => have := HM.out; have h_ := flr_len q f0; rw [← HM.out.2.1] at h_; have := HE.out; omega); intro v2_ w_2 ho hb hg hat; rw [← Ny.out] at ho; clear HB HO; have HB := Aside0.mk hb; have HO := Aside0.mk ho; clear ho hb hg hat))
        go_roundg (n - f)
        case measure => have := HK.out; have := HM.out; omega
        case rel => exact ⟨f, rfl, ⟨by have := HK.out; have := HM.out; omega⟩, ⟨by rw [HF.out]; exact HO.out⟩, HB⟩
      · have hxb : (x == c) = false := by simpa using hxc
        have hqf : q f = false := by rw [HQ.out.2]; exact decide_eq_false (by rw [← HM.out.1, ← HQ.out.1]; exact hxc)
        have HF : Aside0 (flr q f = xs) := ⟨by rw [HM.out.2.2.1, flr, if_neg (by rw [← HM.out.2.2.1, hqf]; decide), ← HM.out.2.1, List.append_nil]⟩
        have HX := Aside0.mk hxc
        clear hxc hqf
        go_wp2
        go_roundg (n - f)
        case measure => have := HK.out; have := HM.out; omega
        case rel => exact ⟨f, rfl, ⟨by have := HK.out; have := HM.out; omega⟩, ⟨by rw [HF.out]; exact HO.out⟩, HB⟩
    · have d4 : decide ((f0 : Int) + 1 ≤ (n : Int)) = false := decide_eq_false (by omega)
      have d6 : ((f0 : Int) + 1 ≤ (n : Int)) = False := eq_false (by omega)
      have HF : Aside0 (flr q f0 = flr q n) := ⟨by rw [show f0 = n by have := HK.out; omega]⟩
      clear hlf
      go_wp2
      go_ret
      exact ⟨_, rfl, by rw [← HF.out]; exact HO.out, HB.out⟩


-- FOR (*impl.coster).drops
-- CALLS (*impl.coster).floors ; impl.newCoster
-- USES kd impl.Drop
-- USES info impl.Drop
-- USES info int

set_option maxHeartbeats 8000000 in
set_option maxRecDepth 1000000 in
theorem cdrops.calls (p : CP) (hp : p.Ok) (w : World) (b e0 n0 : Nat) (br : Int) (hC : Cst w b p) (he : 1 ≤ e0 ∧ e0 ≤ 10 ∧ n0 ≤ 60) :
    Calls Try.prog 74 #[.pointer (some ⟨b, 0, none⟩), .int .i64 (e0 : Int), .int .i64 (n0 : Int), .int .i64 br] w fun e_ w' => ∃ v, e_ = .returned v ∧ Kd.R k89 89 w' w.heap.size (fun _ => True) v (cDrops p br n0 e0 n0 0 0) ∧ Below w.heap.size w w' := by
  have hu := Try.underlying89
  have HP := Aside0.mk hp
  have HC := Aside0.mk hC
  have HE := Aside0.mk he
  clear hp hC he
  go_enter Try.func74, Try.ntmps74
  go_wp2
  go_loopg [1, 2, 9, 10, 11] n0 (fun k v1 v2 v9 v10 v11 w' => ∃ (e n lo s : Nat) (xs : List S89), v1 = .int .i64 (e : Int) ∧ v2 = .int .i64 (n : Int) ∧ v10 = .int .i64 (lo : Int) ∧ v11 = .int .i64 (s : Int) ∧ Aside0 (n ≤ k ∧ k ≤ n0 ∧ lo + n ≤ n0 ∧ (1 ≤ e ∨ n = 0) ∧ e ≤ 10 ∧ s ≤ 1 ∧ xs.length + k ≤ n0) ∧ Aside0 (xs ++ cDrops p br k e n lo s = cDrops p br n0 e0 n0 0 0) ∧ Aside0 (Kd.R k89 89 w' w.heap.size (fun _ => True) v9 xs) ∧ Aside0 (Below w.heap.size w w'))
  case atStart => exact ⟨e0, n0, 0, 0, [], rfl, rfl, rfl, rfl, ⟨by have := HE.out; simp; omega⟩, ⟨rfl⟩, ⟨Hw.R_empty _ _ _ _ _ (Nat.le_refl _) trivial⟩, ⟨by repeat (first | exact Below.refl _ _ | refine below_alloc ?_ _)⟩⟩
  case round =>
    obtain ⟨e, n, lo, s, xs, rfl, rfl, rfl, rfl, HK, HL, HO, HB⟩ := hrel
    by_cases hlt : 0 < n
    · have d1 : decide ((0 : Int) < (n : Int)) = true := decide_eq_true (by omega)
      have d1' : (0 < n) = True := eq_true hlt
      obtain ⟨k1, rfl⟩ : ∃ k1, gk = k1 + 1 := ⟨gk - 1, by have := HK.out; omega⟩
      obtain ⟨r, hr, hf1, hf2, hf3⟩ := cFloors_is HP.out (e := e) (n := n) s (by have := HK.out; omega) hlt (by have := HK.out; have := HE.out; omega)
      have hL := HL.out
      rw [cDrops, if_neg (by omega)] at hL
      obtain ⟨f, hf⟩ : ∃ f, f = cHead p e n s := ⟨_, rfl⟩
      rw [← hf] at hr hf1 hf2 hf3 hL
      obtain ⟨z, hz⟩ : ∃ z : Int, z = (lo : Int) + f := ⟨_, rfl⟩
      have hz2 : ((lo + f : Nat) : Int) = z := by omega
      rw [hz2] at hL
      have w1 : IntKind.i64.wrap ((lo : Int) + f) = z := by rw [hz]; exact Hw.wrap_w (by omega) (by have := HK.out; have := HE.out; omega)
      have w2 : IntKind.i64.wrap ((n : Int) - f) = ((n - f : Nat) : Int) := (Hw.wrap_w (by omega) (by have := HK.out; have := HE.out; omega)).trans (by omega)
      have w3 : IntKind.i64.wrap ((f : Int) - 1) = ((f - 1 : Nat) : Int) := (Hw.wrap_w (by omega) (by have := HK.out; have := HE.out; omega)).trans (by omega)
      have w4 : IntKind.i64.wrap ((e : Int) - 1) = ((e - 1 : Nat) : Int) := (Hw.wrap_w (by omega) (by have := HK.out; have := HE.out; omega)).trans (by have := HK.out; omega)
      have FR := Aside0.mk hr
      have FC : Aside0 (∀ W, Below w.heap.size w W → Calls Try.prog 114 #[.pointer (some ⟨b, 0, none⟩), .int .i64 (e : Int), .int .i64 (n : Int), .int .i64 (s : Int)] W fun e_ w' => ∃ v, e_ = .returned v ∧ Kd.R (Kd.int .i64) 3 w' W.heap.size (fun _ => True) v (cFloors p e n s) ∧ Below W.heap.size W w') := ⟨fun W hW => cfloors.calls p HP.out W b e n s (HC.out.below hW) (by have := HK.out; have := HE.out; omega)⟩
      have HF := Aside0.mk (And.intro hf1 (And.intro hf2 (And.intro hf3 (And.intro hz hlt))))
      obtain ⟨y, hy⟩ : ∃ y : List S89, y = xs ++ [⟨z, decide (br < z)⟩] := ⟨_, rfl⟩
      have Ny := Aside0.mk hy
      have HL2 : Aside0 (y ++ (if br < z then cDrops p br k1 (e - 1) (f - 1) lo 1 else cDrops p br k1 e (n - f) (lo + f) 0) = cDrops p br n0 e0 n0 0 0) := ⟨by rw [← hL, hy]; simp⟩
      clear HL hr hL hf hf1 hf2 hf3 hz hlt hy
      by_cases hc : br < z
      · have d2 : decide (br < z) = true := decide_eq_true hc
        rw [if_pos hc] at HL2
        rw [d2] at Ny
        have HX := Aside0.mk hc
        clear hc
        go_wp2_with (first | ((with_reducible refine gate_callee (f := 114) rfl ?_); refine goesL_ (some 21) rfl rfl Try.func114 (by kernel_rfl) rfl #[.pointer (some ⟨b, 0, none⟩), .int .i64 (e : Int), .int .i64 (n : Int), .int .i64 (s : Int)] rfl (by (try simp only [List.map_toArray, List.map_cons, List.map_nil]); first | done | rfl) ?_; refine (FC.out _ HB.out).mono ?_; rintro e_ w_1 ⟨v1_, rfl, hr_, hb_⟩; refine ⟨_, rfl, ?_⟩; have ho_ := Kd.R_below HO.out hb_; have hB := Hx.bb_below hb_ HB.out; clear HO HB; have HO := Aside0.mk ho_; have HB := Aside0.mk hB; rw [FR.out] at hr_; obtain ⟨g1_, cap1_, ev_, hg1_, hg2_, _⟩ := Kd.R_form hr_ (by simp); subst ev_; obtain ⟨c1_, c2_⟩ := Kd.R_celln 0 hr_ 0 (by omega) (by simp); simp only [Int.toNat_zero] at c1_ c2_; replace c1_ := c1_.trans (show _ = some (Value.int .i64 (f : Int)) from rfl); clear ho_ hB hb_ hr_) | ((with_reducible refine gate_builtin (b := .append) (xs := #[.tmp 33, .tmp 35]) rfl ?_); at_builtin; rw [show w_1.heap.size + 1 = (w_1.alloc (.cells #[.int .i64 z, .bool true] 89 (0, 0))).heap.size from (Array.size_push _).symm]; refine Kd.R_append k89 (w0 := w) w.heap.size rfl (.tmp 33) (.tmp 35) 38 89 (.agg #[(.int .i64 0), (.bool false)]) 16 rfl Try.underlying38 info89 rfl (by decide) (by omega) u9 xs (⟨z, true⟩ : S89) [.int .i64 z, .bool true] (fun _ => True) (fun _ => False) rfl rfl ?aP (fun _ hk => hk.elim) ?aF ?aO ?aB ?aS ?aL ?_; (case aP => exact k89_mkM _ _ _ (⟨z, true⟩ : S89)); (case aB => exact (by repeat (first | (with_reducible first | exact HB.out | apply below_alloc | apply pw_below_drewN | apply below_drew1) | exact HB.out))); (case aF => exact (fun _ _ => trivial)); (case aO => exact (by (with_reducible repeat (first | apply Kd.R_alloc | apply Kd.R_drewN | apply Kd.R_drew)); exact HO.out)); (case aS => exact (below_size (by repeat (first | (with_reducible first | exact HB.out | apply below_alloc | apply pw_below_drewN | apply below_drew1) | exact HB.out)))); (case aL => have := HK.out; have := HE.out; omega); intro v2_ w_2 ho hb hg hat; have bD := blk_grown (blk_new w_1 (.cells #[.int .i64 z, .bool true] 89 (0, 0))) hg (fun h_ => by have h2_ := Kd.R_lt HO.out _ h_.symm; omega); have cD1 : w_2.cell? ⟨w_1.heap.size, 1, none⟩ = some (.bool true) := (blk_cell bD 1).trans rfl; clear bD; rw [← Ny.out] at ho; clear HB HO; have HB := Aside0.mk hb; have HO := Aside0.mk ho; clear ho hb hg hat))
        go_roundg k1
        case measure => omega
        case rel => exact ⟨e - 1, f - 1, lo, 1, y, rfl, rfl, rfl, rfl, ⟨by have := HK.out; have := HF.out; have h_ : y.length = xs.length + 1 := (by rw [Ny.out]; simp); omega⟩, HL2, HO, HB⟩
      · have d2 : decide (br < z) = false := decide_eq_false hc
        rw [if_neg hc] at HL2
        rw [d2] at Ny
        have HX := Aside0.mk hc
        clear hc
        go_wp2_with (first | ((with_reducible refine gate_callee (f := 114) rfl ?_); refine goesL_ (some 21) rfl rfl Try.func114 (by kernel_rfl) rfl #[.pointer (some ⟨b, 0, none⟩), .int .i64 (e : Int), .int .i64 (n : Int), .int .i64 (s : Int)] rfl (by (try simp only [List.map_toArray, List.map_cons, List.map_nil]); first | done | rfl) ?_; refine (FC.out _ HB.out).mono ?_; rintro e_ w_1 ⟨v1_, rfl, hr_, hb_⟩; refine ⟨_, rfl, ?_⟩; have ho_ := Kd.R_below HO.out hb_; have hB := Hx.bb_below hb_ HB.out; clear HO HB; have HO := Aside0.mk ho_; have HB := Aside0.mk hB; rw [FR.out] at hr_; obtain ⟨g1_, cap1_, ev_, hg1_, hg2_, _⟩ := Kd.R_form hr_ (by simp); subst ev_; obtain ⟨c1_, c2_⟩ := Kd.R_celln 0 hr_ 0 (by omega) (by simp); simp only [Int.toNat_zero] at c1_ c2_; replace c1_ := c1_.trans (show _ = some (Value.int .i64 (f : Int)) from rfl); clear ho_ hB hb_ hr_) | ((with_reducible refine gate_builtin (b := .append) (xs := #[.tmp 33, .tmp 35]) rfl ?_); at_builtin; rw [show w_1.heap.size + 1 = (w_1.alloc (.cells #[.int .i64 z, .bool false] 89 (0, 0))).heap.size from (Array.size_push _).symm]; refine Kd.R_append k89 (w0 := w) w.heap.size rfl (.tmp 33) (.tmp 35) 38 89 (.agg #[(.int .i64 0), (.bool false)]) 16 rfl Try.underlying38 info89 rfl (by decide) (by omega) u9 xs (⟨z, false⟩ : S89) [.int .i64 z, .bool false] (fun _ => True) (fun _ => False) rfl rfl ?aP (fun _ hk => hk.elim) ?aF ?aO ?aB ?aS ?aL ?_; (case aP => exact k89_mkM _ _ _ (⟨z, false⟩ : S89)); (case aB => exact (by repeat (first | (with_reducible first | exact HB.out | apply below_alloc | apply pw_below_drewN | apply below_drew1) | exact HB.out))); (case aF => exact (fun _ _ => trivial)); (case aO => exact (by (with_reducible repeat (first | apply Kd.R_alloc | apply Kd.R_drewN | apply Kd.R_drew)); exact HO.out)); (case aS => exact (below_size (by repeat (first | (with_reducible first | exact HB.out | apply below_alloc | apply pw_below_drewN | apply below_drew1) | exact HB.out)))); (case aL => have := HK.out; have := HE.out; omega); intro v2_ w_2 ho hb hg hat; have bD := blk_grown (blk_new w_1 (.cells #[.int .i64 z, .bool false] 89 (0, 0))) hg (fun h_ => by have h2_ := Kd.R_lt HO.out _ h_.symm; omega); have cD1 : w_2.cell? ⟨w_1.heap.size, 1, none⟩ = some (.bool false) := (blk_cell bD 1).trans rfl; clear bD; rw [← Ny.out] at ho; clear HB HO; have HB := Aside0.mk hb; have HO := Aside0.mk ho; clear ho hb hg hat))
        go_roundg k1
        case measure => omega
        case rel => exact ⟨e, n - f, lo + f, 0, y, rfl, rfl, by rw [show ((lo + f : Nat) : Int) = z by have := HF.out; omega], rfl, ⟨by have := HK.out; have := HF.out; have h_ : y.length = xs.length + 1 := (by rw [Ny.out]; simp); omega⟩, HL2, HO, HB⟩
    · have d1 : decide ((0 : Int) < (n : Int)) = false := decide_eq_false (by omega)
      have d1' : (0 < n) = False := eq_false hlt
      have HL2 : Aside0 (xs = cDrops p br n0 e0 n0 0 0) := ⟨by
        rw [← HL.out, show n = 0 by omega]
        cases gk <;> simp [cDrops]⟩
      clear hlt
      go_wp2
      go_ret
      exact ⟨_, rfl, by rw [← HL2.out]; exact HO.out, HB.out⟩


-- FOR impl.CostDrops
-- KIND rounds=0 making=1
-- CALLS (*impl.coster).drops ; impl.newCoster ; impl.isCostly ; impl.isBreak ; impl.within ; impl.ArePrices ; impl.isPrice ; impl.isEggs
-- USES kd impl.Drop

def cAsk (a0 a1 a2 a3 a4 : Int) : Bool := decide ((0 ≤ a0 ∧ a0 ≤ 1000) ∧ (0 ≤ a1 ∧ a1 ≤ 1000) ∧ (0 ≤ a2 ∧ a2 ≤ 1000) ∧ (1 ≤ a3 ∧ a3 ≤ 10) ∧ (0 ≤ a4 ∧ a4 ≤ 60))
def cBrk (a4 a5 : Int) : Bool := decide (0 ≤ a5 ∧ a5 ≤ a4)
theorem within_is (a b c : Int) : impl_within.f a b c = some (decide (b ≤ a ∧ a ≤ c)) := by
  unfold impl_within.f
  by_cases h : b ≤ a <;> simp [h]
theorem isCostly_is (a0 a1 a2 a3 a4 : Int) : impl_isCostly.f a0 a1 a2 a3 a4 = some (cAsk a0 a1 a2 a3 a4) := by
  unfold impl_isCostly.f impl_ArePrices.f impl_isPrice.f impl_isEggs.f cAsk
  simp only [within_is, Option.bind_some]
  by_cases h0 : 0 ≤ a0 ∧ a0 ≤ 1000 <;> by_cases h1 : 0 ≤ a1 ∧ a1 ≤ 1000 <;> by_cases h2 : 0 ≤ a2 ∧ a2 ≤ 1000 <;> by_cases h3 : 1 ≤ a3 ∧ a3 ≤ 10 <;> simp [h0, h1, h2, h3]
theorem isBreak_is (a4 a5 : Int) : impl_isBreak.f a4 a5 = some (cBrk a4 a5) := by
  unfold impl_isBreak.f cBrk
  simp only [within_is, Option.bind_some]
def costDrops (a0 a1 a2 a3 a4 a5 : Int) : List S89 × Bool := if cAsk a0 a1 a2 a3 a4 && cBrk a4 a5 then (cDrops (CP.mk a0 a1 a2) a5 a4.toNat a3.toNat a4.toNat 0 0, true) else ([], false)
def impl_CostDrops.f (a0_0 a0_1 a0_2 a1 a2 a3 : Int) : Option (List S89 × Bool) := some (costDrops a0_0 a0_1 a0_2 a1 a2 a3)
set_option maxHeartbeats 8000000 in
set_option maxRecDepth 100000 in
theorem impl_CostDrops.calls (a0 a1 a2 a3 a4 a5 : Int) (r1 : List S89) (r2 : Bool) (w : World) (h : impl_CostDrops.f a0 a1 a2 a3 a4 a5 = some (r1, r2)) :
    Calls Try.prog 28 #[.agg #[.int .i64 a0, .int .i64 a1, .int .i64 a2], .int .i64 a3, .int .i64 a4, .int .i64 a5] w fun e w' => ∃ v0_ : Value, e = .returned (.tuple #[v0_, .bool r2]) ∧ Kd.R k89 89 w' w.heap.size (fun _ => True) v0_ r1 ∧ Below w.heap.size w w' := by
  have hu41 := Try.underlying41
  have HB := Aside0.mk (Below.refl w.heap.size w)
  obtain ⟨b1, hb1⟩ : ∃ b, b = cAsk a0 a1 a2 a3 a4 := ⟨_, rfl⟩
  obtain ⟨b2, hb2⟩ : ∃ b, b = cBrk a4 a5 := ⟨_, rfl⟩
  have e1 := isCostly_is a0 a1 a2 a3 a4
  have e2 := isBreak_is a4 a5
  unfold impl_CostDrops.f costDrops at h
  rw [← hb1] at e1 h
  rw [← hb2] at e2 h
  have HC := Aside0.mk (And.intro e1 e2)
  have HC1 := Aside0.mk hb1
  clear e1 e2 hb1 hb2
  cases b1 with
  | false =>
    simp only [Bool.false_and, Bool.false_eq_true, if_false, Option.some.injEq, Prod.mk.injEq] at h
    obtain ⟨rfl, rfl⟩ := h
    go_enter Try.func28, Try.ntmps28
    go_wp2_with (first | ((with_reducible refine gate_dst (N := 4) rfl ?_); refine box_event ?hg (N := 4) ?hd (cs := #[.int .i64 a0, .int .i64 a1, .int .i64 a2]) (t := 41) ?hr ?_; (case hd => rfl); (case hg => rfl); (case hr => first | (go_simp; done) | (go_simp; rfl)); intro gB4 hg_ w_gB4 BK_ hb_; have ORD_ : Aside0 ((True) ∧ (w.heap.size ≤ gB4)) := ⟨by refine ⟨trivial, ?_⟩; (have := HB.out.size); omega⟩; have ORD := ORD_; clear ORD_; have n0_ : Aside0 (Below w.heap.size w w_gB4) := ⟨Hx.bb_below hb_ (by first | exact HB.out | exact below_drew1 HB.out | exact pw_below_drewN HB.out _)⟩; have m0_ : Aside0 (w_gB4.heap[gB4]? = some (.cells #[.int .i64 a0, .int .i64 a1, .int .i64 a2] 41 (0, 0))) := ⟨BK_⟩; (try clear HB); have HB := n0_; have B4 := m0_; clear n0_ m0_; have cB4_0 : w_gB4.cell? ⟨gB4, 0, none⟩ = some (.int .i64 a0) := (blk_cell B4.out 0).trans rfl; have dB4_0 := blk_frozen B4.out 0; have cB4_1 : w_gB4.cell? ⟨gB4, 1, none⟩ = some (.int .i64 a1) := (blk_cell B4.out 1).trans rfl; have dB4_1 := blk_frozen B4.out 1; have cB4_2 : w_gB4.cell? ⟨gB4, 2, none⟩ = some (.int .i64 a2) := (blk_cell B4.out 2).trans rfl; have dB4_2 := blk_frozen B4.out 2; clear hg_ BK_ hb_) | ((with_reducible refine gate_callee (f := 71) rfl ?_); refine goesL_ (some 13) rfl rfl Try.func71 (by kernel_rfl) rfl #[.agg #[.int .i64 a0, .int .i64 a1, .int .i64 a2], .int .i64 a3, .int .i64 a4] rfl (by (try simp only [List.map_toArray, List.map_cons, List.map_nil]); first | done | rfl) ?_; refine (impl_isCostly.calls a0 a1 a2 a3 a4 false _ HC.out.1).mono ?_; rintro e_ w_1 ⟨rfl, hb_⟩; refine ⟨_, rfl, ?_⟩; have n0_ : Aside0 (Below w.heap.size w w_1) := ⟨Hx.bb_below hb_ (by first | exact HB.out | exact below_drew1 HB.out | exact pw_below_drewN HB.out _)⟩; have n1_ : Aside0 (w_1.heap[gB4]? = some (.cells #[.int .i64 a0, .int .i64 a1, .int .i64 a2] 41 (0, 0))) := ⟨Hx.b_below hb_ B4.out⟩; (try clear cB4_0 dB4_0 cB4_1 dB4_1 cB4_2 dB4_2); (try clear HB); (try clear B4); have HB := n0_; have B4 := n1_; clear n0_ n1_; have cB4_0 : w_1.cell? ⟨gB4, 0, none⟩ = some (.int .i64 a0) := (blk_cell B4.out 0).trans rfl; have dB4_0 := blk_frozen B4.out 0; have cB4_1 : w_1.cell? ⟨gB4, 1, none⟩ = some (.int .i64 a1) := (blk_cell B4.out 1).trans rfl; have dB4_1 := blk_frozen B4.out 1; have cB4_2 : w_1.cell? ⟨gB4, 2, none⟩ = some (.int .i64 a2) := (blk_cell B4.out 2).trans rfl; have dB4_2 := blk_frozen B4.out 2; clear hb_))
    go_ret2
    exact ⟨_, rfl, Kd.R_nil _ _ _ _ _, HB.out⟩
  | true =>
    cases b2 with
    | false =>
      simp only [Bool.and_false, Bool.false_eq_true, if_false, Option.some.injEq, Prod.mk.injEq] at h
      obtain ⟨rfl, rfl⟩ := h
      go_enter Try.func28, Try.ntmps28
      go_wp2_with (first | ((with_reducible refine gate_dst (N := 4) rfl ?_); refine box_event ?hg (N := 4) ?hd (cs := #[.int .i64 a0, .int .i64 a1, .int .i64 a2]) (t := 41) ?hr ?_; (case hd => rfl); (case hg => rfl); (case hr => first | (go_simp; done) | (go_simp; rfl)); intro gB4 hg_ w_gB4 BK_ hb_; have ORD_ : Aside0 ((True) ∧ (w.heap.size ≤ gB4)) := ⟨by refine ⟨trivial, ?_⟩; (have := HB.out.size); omega⟩; have ORD := ORD_; clear ORD_; have n0_ : Aside0 (Below w.heap.size w w_gB4) := ⟨Hx.bb_below hb_ (by first | exact HB.out | exact below_drew1 HB.out | exact pw_below_drewN HB.out _)⟩; have m0_ : Aside0 (w_gB4.heap[gB4]? = some (.cells #[.int .i64 a0, .int .i64 a1, .int .i64 a2] 41 (0, 0))) := ⟨BK_⟩; (try clear HB); have HB := n0_; have B4 := m0_; clear n0_ m0_; have cB4_0 : w_gB4.cell? ⟨gB4, 0, none⟩ = some (.int .i64 a0) := (blk_cell B4.out 0).trans rfl; have dB4_0 := blk_frozen B4.out 0; have cB4_1 : w_gB4.cell? ⟨gB4, 1, none⟩ = some (.int .i64 a1) := (blk_cell B4.out 1).trans rfl; have dB4_1 := blk_frozen B4.out 1; have cB4_2 : w_gB4.cell? ⟨gB4, 2, none⟩ = some (.int .i64 a2) := (blk_cell B4.out 2).trans rfl; have dB4_2 := blk_frozen B4.out 2; clear hg_ BK_ hb_) | ((with_reducible refine gate_callee (f := 71) rfl ?_); refine goesL_ (some 13) rfl rfl Try.func71 (by kernel_rfl) rfl #[.agg #[.int .i64 a0, .int .i64 a1, .int .i64 a2], .int .i64 a3, .int .i64 a4] rfl (by (try simp only [List.map_toArray, List.map_cons, List.map_nil]); first | done | rfl) ?_; refine (impl_isCostly.calls a0 a1 a2 a3 a4 true _ HC.out.1).mono ?_; rintro e_ w_1 ⟨rfl, hb_⟩; refine ⟨_, rfl, ?_⟩; have n0_ : Aside0 (Below w.heap.size w w_1) := ⟨Hx.bb_below hb_ (by first | exact HB.out | exact below_drew1 HB.out | exact pw_below_drewN HB.out _)⟩; have n1_ : Aside0 (w_1.heap[gB4]? = some (.cells #[.int .i64 a0, .int .i64 a1, .int .i64 a2] 41 (0, 0))) := ⟨Hx.b_below hb_ B4.out⟩; (try clear cB4_0 dB4_0 cB4_1 dB4_1 cB4_2 dB4_2); (try clear HB); (try clear B4); have HB := n0_; have B4 := n1_; clear n0_ n1_; have cB4_0 : w_1.cell? ⟨gB4, 0, none⟩ = some (.int .i64 a0) := (blk_cell B4.out 0).trans rfl; have dB4_0 := blk_frozen B4.out 0; have cB4_1 : w_1.cell? ⟨gB4, 1, none⟩ = some (.int .i64 a1) := (blk_cell B4.out 1).trans rfl; have dB4_1 := blk_frozen B4.out 1; have cB4_2 : w_1.cell? ⟨gB4, 2, none⟩ = some (.int .i64 a2) := (blk_cell B4.out 2).trans rfl; have dB4_2 := blk_frozen B4.out 2; clear hb_) | (go_at_call 72; refine (impl_isBreak.calls a4 a5 false _ HC.out.2).mono ?_; rintro e_ w_2 ⟨rfl, hd_⟩; have hb_ := hd_.below; clear hd_; have n0_ : Aside0 (Below w.heap.size w w_2) := ⟨Hx.bb_below hb_ (by first | exact HB.out | exact below_drew1 HB.out | exact pw_below_drewN HB.out _)⟩; have n1_ : Aside0 (w_2.heap[gB4]? = some (.cells #[.int .i64 a0, .int .i64 a1, .int .i64 a2] 41 (0, 0))) := ⟨Hx.b_below hb_ B4.out⟩; (try clear cB4_0 dB4_0 cB4_1 dB4_1 cB4_2 dB4_2); (try clear HB); (try clear B4); have HB := n0_; have B4 := n1_; clear n0_ n1_; have cB4_0 : w_2.cell? ⟨gB4, 0, none⟩ = some (.int .i64 a0) := (blk_cell B4.out 0).trans rfl; have dB4_0 := blk_frozen B4.out 0; have cB4_1 : w_2.cell? ⟨gB4, 1, none⟩ = some (.int .i64 a1) := (blk_cell B4.out 1).trans rfl; have dB4_1 := blk_frozen B4.out 1; have cB4_2 : w_2.cell? ⟨gB4, 2, none⟩ = some (.int .i64 a2) := (blk_cell B4.out 2).trans rfl; have dB4_2 := blk_frozen B4.out 2; clear hb_))
      go_ret2
      exact ⟨_, rfl, Kd.R_nil _ _ _ _ _, HB.out⟩
    | true =>
      simp only [Bool.and_true, if_true, Option.some.injEq, Prod.mk.injEq] at h
      obtain ⟨rfl, rfl⟩ := h
      have hA := of_decide_eq_true HC1.out.symm
      have HP : Aside0 (CP.Ok (CP.mk a0 a1 a2)) := ⟨by show 0 ≤ a0 ∧ a0 ≤ 1000 ∧ 0 ≤ a1 ∧ a1 ≤ 1000 ∧ 0 ≤ a2 ∧ a2 ≤ 1000; omega⟩
      have HD : Aside0 (∀ W b, Cst W b (CP.mk a0 a1 a2) → Calls Try.prog 74 #[.pointer (some ⟨b, 0, none⟩), .int .i64 a3, .int .i64 a4, .int .i64 a5] W fun e_ w' => ∃ v, e_ = .returned v ∧ Kd.R k89 89 w' W.heap.size (fun _ => True) v (cDrops (CP.mk a0 a1 a2) a5 a4.toNat a3.toNat a4.toNat 0 0) ∧ Below W.heap.size W w') := ⟨by
        intro W b hC
        have h_ := cdrops.calls (CP.mk a0 a1 a2) HP.out W b a3.toNat a4.toNat a5 hC (by omega)
        rw [Int.toNat_of_nonneg (by omega), Int.toNat_of_nonneg (by omega)] at h_
        exact h_⟩
      clear hA
      go_enter Try.func28, Try.ntmps28
      go_wp2_with (first | ((with_reducible refine gate_dst (N := 4) rfl ?_); refine box_event ?hg (N := 4) ?hd (cs := #[.int .i64 a0, .int .i64 a1, .int .i64 a2]) (t := 41) ?hr ?_; (case hd => rfl); (case hg => rfl); (case hr => first | (go_simp; done) | (go_simp; rfl)); intro gB4 hg_ w_gB4 BK_ hb_; have ORD_ : Aside0 ((True) ∧ (w.heap.size ≤ gB4)) := ⟨by refine ⟨trivial, ?_⟩; (have := HB.out.size); omega⟩; have ORD := ORD_; clear ORD_; have n0_ : Aside0 (Below w.heap.size w w_gB4) := ⟨Hx.bb_below hb_ (by first | exact HB.out | exact below_drew1 HB.out | exact pw_below_drewN HB.out _)⟩; have m0_ : Aside0 (w_gB4.heap[gB4]? = some (.cells #[.int .i64 a0, .int .i64 a1, .int .i64 a2] 41 (0, 0))) := ⟨BK_⟩; (try clear HB); have HB := n0_; have B4 := m0_; clear n0_ m0_; have cB4_0 : w_gB4.cell? ⟨gB4, 0, none⟩ = some (.int .i64 a0) := (blk_cell B4.out 0).trans rfl; have dB4_0 := blk_frozen B4.out 0; have cB4_1 : w_gB4.cell? ⟨gB4, 1, none⟩ = some (.int .i64 a1) := (blk_cell B4.out 1).trans rfl; have dB4_1 := blk_frozen B4.out 1; have cB4_2 : w_gB4.cell? ⟨gB4, 2, none⟩ = some (.int .i64 a2) := (blk_cell B4.out 2).trans rfl; have dB4_2 := blk_frozen B4.out 2; clear hg_ BK_ hb_) | ((with_reducible refine gate_callee (f := 71) rfl ?_); refine goesL_ (some 13) rfl rfl Try.func71 (by kernel_rfl) rfl #[.agg #[.int .i64 a0, .int .i64 a1, .int .i64 a2], .int .i64 a3, .int .i64 a4] rfl (by (try simp only [List.map_toArray, List.map_cons, List.map_nil]); first | done | rfl) ?_; refine (impl_isCostly.calls a0 a1 a2 a3 a4 true _ HC.out.1).mono ?_; rintro e_ w_1 ⟨rfl, hb_⟩; refine ⟨_, rfl, ?_⟩; have n0_ : Aside0 (Below w.heap.size w w_1) := ⟨Hx.bb_below hb_ (by first | exact HB.out | exact below_drew1 HB.out | exact pw_below_drewN HB.out _)⟩; have n1_ : Aside0 (w_1.heap[gB4]? = some (.cells #[.int .i64 a0, .int .i64 a1, .int .i64 a2] 41 (0, 0))) := ⟨Hx.b_below hb_ B4.out⟩; (try clear cB4_0 dB4_0 cB4_1 dB4_1 cB4_2 dB4_2); (try clear HB); (try clear B4); have HB := n0_; have B4 := n1_; clear n0_ n1_; have cB4_0 : w_1.cell? ⟨gB4, 0, none⟩ = some (.int .i64 a0) := (blk_cell B4.out 0).trans rfl; have dB4_0 := blk_frozen B4.out 0; have cB4_1 : w_1.cell? ⟨gB4, 1, none⟩ = some (.int .i64 a1) := (blk_cell B4.out 1).trans rfl; have dB4_1 := blk_frozen B4.out 1; have cB4_2 : w_1.cell? ⟨gB4, 2, none⟩ = some (.int .i64 a2) := (blk_cell B4.out 2).trans rfl; have dB4_2 := blk_frozen B4.out 2; clear hb_) | (go_at_call 72; refine (impl_isBreak.calls a4 a5 true _ HC.out.2).mono ?_; rintro e_ w_2 ⟨rfl, hd_⟩; have hb_ := hd_.below; clear hd_; have n0_ : Aside0 (Below w.heap.size w w_2) := ⟨Hx.bb_below hb_ (by first | exact HB.out | exact below_drew1 HB.out | exact pw_below_drewN HB.out _)⟩; have n1_ : Aside0 (w_2.heap[gB4]? = some (.cells #[.int .i64 a0, .int .i64 a1, .int .i64 a2] 41 (0, 0))) := ⟨Hx.b_below hb_ B4.out⟩; (try clear cB4_0 dB4_0 cB4_1 dB4_1 cB4_2 dB4_2); (try clear HB); (try clear B4); have HB := n0_; have B4 := n1_; clear n0_ n1_; have cB4_0 : w_2.cell? ⟨gB4, 0, none⟩ = some (.int .i64 a0) := (blk_cell B4.out 0).trans rfl; have dB4_0 := blk_frozen B4.out 0; have cB4_1 : w_2.cell? ⟨gB4, 1, none⟩ = some (.int .i64 a1) := (blk_cell B4.out 1).trans rfl; have dB4_1 := blk_frozen B4.out 1; have cB4_2 : w_2.cell? ⟨gB4, 2, none⟩ = some (.int .i64 a2) := (blk_cell B4.out 2).trans rfl; have dB4_2 := blk_frozen B4.out 2; clear hb_) | ((with_reducible refine gate_callee (f := 73) rfl ?_); refine goesL_ (some 22) rfl rfl Try.func73 (by kernel_rfl) rfl #[.agg #[.int .i64 a0, .int .i64 a1, .int .i64 a2]] rfl (by (try simp only [List.map_toArray, List.map_cons, List.map_nil]); first | done | rfl) ?_; refine (newCoster.calls (CP.mk a0 a1 a2) HP.out _).mono ?_; rintro e_ w_3 ⟨bc_, rfl, _, hc_, hb_⟩; refine ⟨_, rfl, ?_⟩; have n0_ : Aside0 (Below w.heap.size w w_3) := ⟨Hx.bb_below hb_ (by first | exact HB.out | exact below_drew1 HB.out | exact pw_below_drewN HB.out _)⟩; have n1_ : Aside0 (w_3.heap[gB4]? = some (.cells #[.int .i64 a0, .int .i64 a1, .int .i64 a2] 41 (0, 0))) := ⟨Hx.b_below hb_ B4.out⟩; have m0_ : Aside0 (Cst w_3 bc_ (CP.mk a0 a1 a2)) := ⟨hc_⟩; (try clear cB4_0 dB4_0 cB4_1 dB4_1 cB4_2 dB4_2); (try clear HB); (try clear B4); have HB := n0_; have B4 := n1_; have HT := m0_; clear n0_ n1_ m0_; have cB4_0 : w_3.cell? ⟨gB4, 0, none⟩ = some (.int .i64 a0) := (blk_cell B4.out 0).trans rfl; have dB4_0 := blk_frozen B4.out 0; have cB4_1 : w_3.cell? ⟨gB4, 1, none⟩ = some (.int .i64 a1) := (blk_cell B4.out 1).trans rfl; have dB4_1 := blk_frozen B4.out 1; have cB4_2 : w_3.cell? ⟨gB4, 2, none⟩ = some (.int .i64 a2) := (blk_cell B4.out 2).trans rfl; have dB4_2 := blk_frozen B4.out 2; clear hb_ hc_) | ((with_reducible refine gate_callee (f := 74) rfl ?_); refine goesL_ (some 26) rfl rfl Try.func74 (by kernel_rfl) rfl #[.pointer (some ⟨bc_, 0, none⟩), .int .i64 a3, .int .i64 a4, .int .i64 a5] rfl (by (try simp only [List.map_toArray, List.map_cons, List.map_nil]); first | done | rfl) ?_; refine (HD.out _ bc_ HT.out).mono ?_; rintro e_ w_4 ⟨vr_, rfl, ho_, hb_⟩; refine ⟨_, rfl, ?_⟩; have n0_ : Aside0 (Below w.heap.size w w_4) := ⟨Hx.bb_below hb_ (by first | exact HB.out | exact below_drew1 HB.out | exact pw_below_drewN HB.out _)⟩; have n1_ : Aside0 (w_4.heap[gB4]? = some (.cells #[.int .i64 a0, .int .i64 a1, .int .i64 a2] 41 (0, 0))) := ⟨Hx.b_below hb_ B4.out⟩; have n2_ : Aside0 (Cst w_4 bc_ (CP.mk a0 a1 a2)) := ⟨CT.below HT.out hb_⟩; have m0_ : Aside0 (Kd.R k89 89 w_4 w.heap.size (fun _ => True) vr_ (cDrops (CP.mk a0 a1 a2) a5 a4.toNat a3.toNat a4.toNat 0 0)) := ⟨Kd.R_lower ho_ (by have := HB.out.size; omega)⟩; (try clear cB4_0 dB4_0 cB4_1 dB4_1 cB4_2 dB4_2); (try clear HB); (try clear B4); (try clear HT); have HB := n0_; have B4 := n1_; have HT := n2_; have HR := m0_; clear n0_ n1_ n2_ m0_; have cB4_0 : w_4.cell? ⟨gB4, 0, none⟩ = some (.int .i64 a0) := (blk_cell B4.out 0).trans rfl; have dB4_0 := blk_frozen B4.out 0; have cB4_1 : w_4.cell? ⟨gB4, 1, none⟩ = some (.int .i64 a1) := (blk_cell B4.out 1).trans rfl; have dB4_1 := blk_frozen B4.out 1; have cB4_2 : w_4.cell? ⟨gB4, 2, none⟩ = some (.int .i64 a2) := (blk_cell B4.out 2).trans rfl; have dB4_2 := blk_frozen B4.out 2; clear hb_ ho_))
      go_ret2
      exact ⟨_, rfl, HR.out, HB.out⟩


/-! ### spec_l1In: function 68 -/
def spec_l1In.f (a0 : Int) (a1 : Int) (a2 : Int) : Option (Bool) := if a0 ≥ a1 then (some (decide (a0 ≤ a2))) else (some false)
set_option maxHeartbeats 8000000 in
set_option maxRecDepth 100000 in
theorem spec_l1In.calls (a0 : Int) (a1 : Int) (a2 : Int) (r : Bool) (w : World) (h : spec_l1In.f a0 a1 a2 = some r) :
    Calls Try.prog 68 #[.int .i64 a0, .int .i64 a1, .int .i64 a2] w fun e w' => e = .returned (.bool r) ∧ Drawn0 w w' := by
  have H : (if a0 ≥ a1 then (some (decide (a0 ≤ a2))) else (some false)) = some r := h
  clear h
  by_cases c4 : a0 ≥ a1
  · rw [if_pos c4] at H
    have c4b0 : decide (a1 ≤ a0) = true := decide_eq_true c4
    clear c4
    obtain rfl := Option.some.inj H
    go_enter Try.func68, Try.ntmps68
    go_wp2
    go_ret
    exact ⟨by first | rfl | (simp; done) | (simp [*]; done), by repeat (first | exact Drawn0.refl _ | apply Drawn0.step)⟩
  · rw [if_neg c4] at H
    have c4b0 : decide (a1 ≤ a0) = false := decide_eq_false c4
    clear c4
    obtain rfl := Option.some.inj H
    go_enter Try.func68, Try.ntmps68
    go_wp2
    go_ret
    exact ⟨by first | rfl | (simp; done) | (simp [*]; done), by repeat (first | exact Drawn0.refl _ | apply Drawn0.step)⟩

end Go.Proofs.Ytoomacelbhojhaa.D
