/- Plain Lean functions with the answers of Go functions, and proofs of it: printed by a program of this session (pr.py) over the kit's print, with hand-written parts. -/
import Derived.Test.YtoomacelbhojhaaEx0
import Derived.Test.YtoomacelbhojhaaEx1
import Derived.Test.YtoomacelbhojhaaEx2
namespace Go.Proofs.Ytoomacelbhojhaa.E
open Go.RowKit Go.Proofs.YtoomacelbhojhaaW.PrintWords Go.Proofs.YtoomacelbhojhaaW.PrintLast Go.Proofs.YtoomacelbhojhaaW.PrintMore
attribute [local go_sem] max2_int min2_int max_two min_two max_three min_three max_four min_four   -- for this text's walks alone
set_option linter.unusedVariables false
set_option linter.unusedSimpArgs false

-- FOR impl.newCoster
-- CALLS (*impl.coster).first ; impl.isCostly ; impl.within ; impl.ArePrices ; impl.isPrice ; impl.isEggs
/-! ### The program's table of costs -/
def CTab (p : CP) (cs : Array Value) (q : Nat) : Prop :=
  cs.size = 1345 ∧ (cs[0]? = some (.int .i64 p.e) ∧ cs[1]? = some (.int .i64 p.t) ∧ cs[2]? = some (.int .i64 p.c)) ∧
  ∀ n e s, n < 61 → e < 11 → s < 2 → (n = 0 ∨ ((n - 1) * 11 + e) * 2 + s < q) → cs[3 + e * 122 + n * 2 + s]? = some (.int .i64 (cst p e n s))
theorem CTab_zero (p : CP) : CTab p ((((Array.replicate 1345 (.int .i64 0)).setIfInBounds 0 (.int .i64 p.e)).setIfInBounds 1 (.int .i64 p.t)).setIfInBounds 2 (.int .i64 p.c)) 0 := by
  refine ⟨by simp, ⟨by simp [Array.getElem?_setIfInBounds], by simp [Array.getElem?_setIfInBounds], by simp [Array.getElem?_setIfInBounds]⟩, fun n e s hn he hs h => ?_⟩
  have h0 : n = 0 := by omega
  subst h0
  rw [Array.getElem?_setIfInBounds, if_neg (by omega), Array.getElem?_setIfInBounds, if_neg (by omega), Array.getElem?_setIfInBounds, if_neg (by omega), Array.getElem?_replicate, if_pos (by omega), cst_zero]
theorem CTab_set {p : CP} {cs : Array Value} {q n e s : Nat} (h : CTab p cs q) (hq : q = ((n - 1) * 11 + e) * 2 + s) (h1 : 1 ≤ n) (h2 : n < 61) (h3 : e < 11) (h4 : s < 2) (v : Value) :
    CTab p (cs.setIfInBounds (3 + e * 122 + n * 2 + s) v) q ∧ (cs.setIfInBounds (3 + e * 122 + n * 2 + s) v)[3 + e * 122 + n * 2 + s]? = some v := by
  obtain ⟨a, ⟨b0, b1, b2⟩, c⟩ := h
  refine ⟨⟨by simp [a], ⟨?_, ?_, ?_⟩, fun n' e' s' x1 x2 x3 x4 => ?_⟩, ?_⟩
  · rw [Array.getElem?_setIfInBounds, if_neg (by omega)]; exact b0
  · rw [Array.getElem?_setIfInBounds, if_neg (by omega)]; exact b1
  · rw [Array.getElem?_setIfInBounds, if_neg (by omega)]; exact b2
  · rw [Array.getElem?_setIfInBounds, if_neg ?_]
    · exact c n' e' s' x1 x2 x3 x4
    · intro h
      have e1 : e = e' := by omega
      have e2 : n = n' := by omega
      have e3 : s = s' := by omega
      subst e1 e2 e3
      omega
  · rw [Array.getElem?_setIfInBounds, if_pos rfl, if_pos (by omega)]
theorem CTab_done {p : CP} {cs : Array Value} {q n e s : Nat} (h : CTab p cs q) (hq : q = ((n - 1) * 11 + e) * 2 + s) (h1 : 1 ≤ n) (h2 : n < 61) (h3 : e < 11) (h4 : s < 2) (hv : cs[3 + e * 122 + n * 2 + s]? = some (.int .i64 (cst p e n s))) : CTab p cs (q + 1) := by
  obtain ⟨a, b, c⟩ := h
  refine ⟨a, b, fun n' e' s' x1 x2 x3 x4 => ?_⟩
  by_cases hh : n' = 0 ∨ ((n' - 1) * 11 + e') * 2 + s' < q
  · exact c n' e' s' x1 x2 x3 hh
  · have e3 : n = n' := by omega
    have e1 : e = e' := by omega
    have e2 : s = s' := by omega
    subst e1 e2 e3
    exact hv
def CT (w : World) (b : Nat) (p : CP) (q : Nat) : Prop := ∃ cs, w.heap[b]? = some (.cells cs 130 (0, 0)) ∧ CTab p cs q
def CTv (w : World) (b : Nat) (p : CP) (n e s : Nat) (v : Int) : Prop := ∃ cs, w.heap[b]? = some (.cells cs 130 (0, 0)) ∧ CTab p cs (((n - 1) * 11 + e) * 2 + s) ∧ cs[3 + e * 122 + n * 2 + s]? = some (.int .i64 v)
theorem CT.below {w w' : World} {b q : Nat} {p : CP} (h : CT w b p q) (hb : Below w.heap.size w w') : CT w' b p q := by
  obtain ⟨cs, h1, h2⟩ := h
  exact ⟨cs, Hx.b_below hb h1, h2⟩
theorem CT.lt {w : World} {b q : Nat} {p : CP} (h : CT w b p q) : b < w.heap.size := by
  obtain ⟨cs, h1, h2⟩ := h
  exact blk_lt h1
theorem CT.pe {w : World} {b q : Nat} {p : CP} (h : CT w b p q) : w.cell? ⟨b, 0, none⟩ = some (.int .i64 p.e) ∧ w.cell? ⟨b, 1, none⟩ = some (.int .i64 p.t) ∧ w.cell? ⟨b, 2, none⟩ = some (.int .i64 p.c) := by
  obtain ⟨cs, h1, h2⟩ := h
  exact ⟨(blk_cell h1 0).trans h2.2.1.1, (blk_cell h1 1).trans h2.2.1.2.1, (blk_cell h1 2).trans h2.2.1.2.2⟩
theorem CT.get {w : World} {b q : Nat} {p : CP} (h : CT w b p q) {n e s : Nat} (h1 : n < 61) (h2 : e < 11) (h3 : s < 2) (h4 : n = 0 ∨ ((n - 1) * 11 + e) * 2 + s < q) : w.cell? ⟨b, 3 + e * 122 + n * 2 + s, none⟩ = some (.int .i64 (cst p e n s)) := by
  obtain ⟨cs, c1, c2⟩ := h
  exact (blk_cell c1 _).trans (c2.2.2 n e s h1 h2 h3 h4)
theorem CT.put {w : World} {b : Nat} {p : CP} {n e s : Nat} (h : CT w b p (((n - 1) * 11 + e) * 2 + s)) (h1 : 1 ≤ n) (h2 : n < 61) (h3 : e < 11) (h4 : s < 2) (v : Int) : CTv (w.setCell ⟨b, 3 + e * 122 + n * 2 + s, none⟩ (.int .i64 v)) b p n e s v := by
  obtain ⟨cs, c1, c2⟩ := h
  have c3 := CTab_set c2 rfl h1 h2 h3 h4 (.int .i64 v)
  exact ⟨_, blk_set c1 _ _, c3.1, c3.2⟩
theorem CT.cell {w : World} {b q : Nat} {p : CP} (h : CT w b p q) (i : Nat) : w.frozen? ⟨b, i, none⟩ = false := by
  obtain ⟨cs, c1, c2⟩ := h
  exact blk_frozen c1 i
theorem CTv.ct {w : World} {b : Nat} {p : CP} {n e s : Nat} {v : Int} (h : CTv w b p n e s v) : CT w b p (((n - 1) * 11 + e) * 2 + s) := by
  obtain ⟨cs, c1, c2, c3⟩ := h
  exact ⟨cs, c1, c2⟩
theorem CTv.val {w : World} {b : Nat} {p : CP} {n e s : Nat} {v : Int} (h : CTv w b p n e s v) : w.cell? ⟨b, 3 + e * 122 + n * 2 + s, none⟩ = some (.int .i64 v) := by
  obtain ⟨cs, c1, c2, c3⟩ := h
  exact (blk_cell c1 _).trans c3
theorem CTv.done {w : World} {b : Nat} {p : CP} {n e s : Nat} {v : Int} (h : CTv w b p n e s v) (h1 : 1 ≤ n) (h2 : n < 61) (h3 : e < 11) (h4 : s < 2) (hv : v = cst p e n s) : CT w b p (((n - 1) * 11 + e) * 2 + s + 1) := by
  obtain ⟨cs, c1, c2, c3⟩ := h
  subst hv
  exact ⟨cs, c1, CTab_done c2 rfl h1 h2 h3 h4 c3⟩
theorem CTv.below {w w' : World} {b : Nat} {p : CP} {n e s : Nat} {v : Int} (h : CTv w b p n e s v) (hb : Below w.heap.size w w') : CTv w' b p n e s v := by
  obtain ⟨cs, h1, h2⟩ := h
  exact ⟨cs, Hx.b_below hb h1, h2⟩
/-- All costs are there. -/
def Cst (w : World) (b : Nat) (p : CP) : Prop := CT w b p 1320
theorem CT.any {w : World} {b q : Nat} {p : CP} (h : CT w b p q) {i : Nat} (hi : i < 1345) : ∃ v, w.cell? ⟨b, i, none⟩ = some v := by
  obtain ⟨cs, c1, c2⟩ := h
  exact ⟨cs[i]'(by rw [c2.1]; exact hi), (blk_cell c1 i).trans (Array.getElem?_eq_getElem _)⟩

set_option maxHeartbeats 8000000 in
set_option maxRecDepth 1000000 in
theorem newCoster.calls (p : CP) (hp : p.Ok) (w : World) :
    Calls Try.prog 73 #[.agg #[.int .i64 p.e, .int .i64 p.t, .int .i64 p.c]] w fun e_ w' => ∃ b, e_ = .returned (.pointer (some ⟨b, 0, none⟩)) ∧ w.heap.size ≤ b ∧ Cst w' b p ∧ Below w.heap.size w w' := by
  obtain ⟨hz, hsz⟩ := zero_of_info (P := Try.prog) (t := 130) (v := .agg (Array.replicate 1345 (.int .i64 0))) (n := 1345) (by kernel_rfl)
  obtain ⟨Z, hZ⟩ : ∃ Z : Array Value, Z = Array.replicate 1345 (.int .i64 0) := ⟨_, rfl⟩
  rw [← hZ] at hz
  have hZs : (Z.size < 3) = False := eq_false (by rw [hZ]; simp)
  have HZ := Aside0.mk (CTab_zero p)
  rw [← hZ] at HZ
  clear hZ
  have HP := Aside0.mk hp
  clear hp
  have zs1 := size127
  have zs2 := size126
  obtain ⟨b, hb⟩ : ∃ b, b = w.heap.size + 1 := ⟨_, rfl⟩
  have HBB := Aside0.mk hb
  go_enter Try.func73, Try.ntmps73
  go_wp2
  rw [← hb]
  clear hb
  go_loopg [4] 60 (fun k v4 w' => ∃ n : Nat, v4 = .int .i64 (n : Int) ∧ Aside0 (1 ≤ n ∧ n + k = 61) ∧ Aside0 (CT w' b p ((n - 1) * 22)) ∧ Aside0 (Below w.heap.size w w'))
  case atStart => exact ⟨1, rfl, ⟨by omega⟩, ⟨⟨_, by have h_ := blk_new (w.alloc (.cells #[.int .i64 p.e, .int .i64 p.t, .int .i64 p.c] 41 (0, 0))) (.cells (((Z.setIfInBounds 0 (.int .i64 p.e)).setIfInBounds 1 (.int .i64 p.t)).setIfInBounds 2 (.int .i64 p.c)) 130 (0, 0)); rw [show (w.alloc (.cells #[.int .i64 p.e, .int .i64 p.t, .int .i64 p.c] 41 (0, 0))).heap.size = w.heap.size + 1 from Array.size_push _] at h_; rw [HBB.out]; exact h_, HZ.out⟩⟩, ⟨by repeat (first | exact Below.refl _ _ | refine below_alloc ?_ _)⟩⟩
  case round =>
    obtain ⟨n, rfl, HK, HT, HB⟩ := hrel
    by_cases hlt : n ≤ 60
    · have d1 : decide ((n : Int) ≤ 60) = true := decide_eq_true (by omega)
      have d1' : ((n : Int) ≤ 60) = True := eq_true (by omega)
      have HL := Aside0.mk hlt
      clear hlt
      go_wp2
      go_loopg [15] 11 (fun k v15 w' => ∃ e : Nat, v15 = .int .i64 (e : Int) ∧ Aside0 (e + k = 11) ∧ Aside0 (CT w' b p ((n - 1) * 22 + e * 2)) ∧ Aside0 (Below w.heap.size w w'))
      case atStart => exact ⟨0, rfl, ⟨by omega⟩, HT, HB⟩
      case round =>
        clear HT HB
        obtain ⟨e, rfl, HK2, HT, HB⟩ := hrel
        by_cases hle : e < 11
        · have d2 : decide ((e : Int) < 11) = true := decide_eq_true (by omega)
          have d2' : ((e : Int) < 11) = True := eq_true (by omega)
          have e0' : ((0 : Int) ≤ (e : Int)) = True := eq_true (by omega)
          have n0' : ((0 : Int) ≤ (n : Int)) = True := eq_true (by omega)
          have n1' : ((n : Int) < 61) = True := eq_true (by have := HL.out; omega)
          have HL2 := Aside0.mk hle
          clear hle
          go_wp2
          go_loopg [18] 2 (fun k v18 w' => ∃ s : Nat, v18 = .int .i64 (s : Int) ∧ Aside0 (s + k = 2) ∧ Aside0 (CT w' b p (((n - 1) * 11 + e) * 2 + s)) ∧ Aside0 (Below w.heap.size w w'))
          case atStart => exact ⟨0, rfl, ⟨by omega⟩, ⟨by have h_ := HT.out; rw [show (n - 1) * 22 + e * 2 = ((n - 1) * 11 + e) * 2 + 0 by omega] at h_; exact h_⟩, HB⟩
          case round =>
            clear HT HB
            obtain ⟨s, rfl, HK3, HT, HB⟩ := hrel
            by_cases hls : s < 2
            · have d3 : decide ((s : Int) < 2) = true := decide_eq_true (by omega)
              have d3' : ((s : Int) < 2) = True := eq_true (by omega)
              have s0' : ((0 : Int) ≤ (s : Int)) = True := eq_true (by omega)
              have HL3 := Aside0.mk hls
              obtain ⟨u, gu⟩ := HT.out.any (i := 3 + e * 122 + n * 2 + s) (by have := HL.out; have := HL2.out; omega)
              have fu := HT.out.cell (3 + e * 122 + n * 2 + s)
              have HV := Aside0.mk (HT.out.put HK.out.1 (by have := HL.out; omega) HL2.out HL3.out cNever)
              have HB2 := Aside0.mk (below_set (g := b) (j := 3 + e * 122 + n * 2 + s) (v := .int .i64 cNever) HB.out (by have := HBB.out; omega))
              clear hls
              go_wp2
              go_loopg [7] n (fun k v7 w' => ∃ f : Nat, v7 = .int .i64 ((f : Int) + 1) ∧ Aside0 (f + k = n) ∧ Aside0 ((e = 0 → f = 0) ∧ CTv w' b p n e s (mnF (cFst p e n s) f)) ∧ Aside0 (Below w.heap.size w w'))
              case atStart => exact ⟨0, rfl, ⟨by omega⟩, ⟨fun _ => rfl, HV.out⟩, HB2⟩
              case round =>
                clear HT HB gu fu HV HB2
                obtain ⟨f0, rfl, HK4, HT, HB⟩ := hrel
                by_cases hlf : f0 < n ∧ 0 < e
                · obtain ⟨f, hf⟩ : ∃ f, f = f0 + 1 := ⟨_, rfl⟩
                  have hf2 : (f0 : Int) + 1 = (f : Int) := by omega
                  rw [hf2]
                  have d4 : decide ((f : Int) ≤ (n : Int)) = true := decide_eq_true (by omega)
                  have d5 : decide ((0 : Int) < (e : Int)) = true := decide_eq_true (by omega)
                  have d6 : (f ≤ n) = True := eq_true (by omega)
                  have d7 : (0 < e) = True := eq_true (by omega)
                  have HL4 := Aside0.mk (And.intro hlf hf)
                  obtain ⟨m, hm⟩ : ∃ m, m = mnF (cFst p e n s) f0 := ⟨_, rfl⟩
                  obtain ⟨x, hx⟩ : ∃ x, x = cFst p e n s f := ⟨_, rfl⟩
                  have gm := HT.out.2.val
                  have fm := HT.out.2.ct.cell (3 + e * 122 + n * 2 + s)
                  rw [← hm] at gm
                  have FC : Aside0 (∀ W, Below wr.heap.size wr W → Calls Try.prog 113 #[.pointer (some ⟨b, 0, none⟩), .int .i64 (e : Int), .int .i64 (n : Int), .int .i64 (s : Int), .int .i64 (f : Int)] W fun e_ w' => e_ = .returned (.int .i64 x) ∧ Drawn0 W w') := ⟨by
                    intro W hW
                    have h_ := HT.out.2.ct.below hW
                    have l1 := HL.out
                    have l2 := HL2.out
                    have l3 := HL3.out
                    have l4 := HL4.out
                    rw [hx]
                    exact first.calls W b p e n s f _ _ HP.out (by omega) ⟨cst_lo HP.out _ _ _, cst_hi _ _ _ _, cst_lo HP.out _ _ _, cst_hi _ _ _ _⟩ h_.pe.1 h_.pe.2.1 h_.pe.2.2 (h_.get (n := f - 1) (e := e - 1) (s := 1) (by omega) (by omega) (by omega) (by omega)) (h_.get (n := n - f) (e := e) (s := 0) (by omega) (by omega) (by omega) (by omega))⟩
                  have HM := Aside0.mk (And.intro hm hx)
                  clear hlf hf hf2 hm hx
                  go_upto_region 15 with fail
                  refine start_ (n := 27) (S := fun w' => w'.cell? ⟨b, 3 + e * 122 + n * 2 + s, none⟩ = some (.int .i64 m)) (ds := [26]) #[false, false, false, false, false, false, false, false, false, false, false, false, false, false, false, false, false, false, false, false, false, false, false, false, false, false, false] (by kernel_rfl) rfl rfl (gm) (fun hHeld => ?_)
                  refine pure_ (i := 0) (N := some 39) (v := ?_) (a' := ?_) #[true, false, false, false, false, false, false, false, false, false, false, false, false, false, false, false, false, false, false, false, false, false, false, false, false, false, false] rfl rfl (by kernel_rfl) (fun _ _ _ h => h) (Or.inl ⟨by rfl, ?_⟩) ?_ ?_
                  rotate_left
                  · intro w'
                    go_simp
                    with_reducible rfl
                  rotate_left
                  · simp only [Act.put, List.setIfInBounds_toArray, List.set_cons_zero, List.set_cons_succ, i64_w, i32_w]
                    rfl
                  refine pure_ (i := 1) (N := some 40) (v := ?_) (a' := ?_) #[true, true, false, false, false, false, false, false, false, false, false, false, false, false, false, false, false, false, false, false, false, false, false, false, false, false, false] rfl rfl (by kernel_rfl) (fun _ _ _ h => h) (Or.inl ⟨by rfl, ?_⟩) ?_ ?_
                  rotate_left
                  · intro w'
                    go_simp
                    with_reducible rfl
                  rotate_left
                  · simp only [Act.put, List.setIfInBounds_toArray, List.set_cons_zero, List.set_cons_succ, i64_w, i32_w]
                    rfl
                  refine pure_ (i := 2) (N := some 41) (v := ?_) (a' := ?_) #[true, true, true, false, false, false, false, false, false, false, false, false, false, false, false, false, false, false, false, false, false, false, false, false, false, false, false] rfl rfl (by kernel_rfl) (fun _ _ _ h => h) (Or.inl ⟨by rfl, ?_⟩) ?_ ?_
                  rotate_left
                  · intro w'
                    go_simp
                    with_reducible rfl
                  rotate_left
                  · simp only [Act.put, List.setIfInBounds_toArray, List.set_cons_zero, List.set_cons_succ, i64_w, i32_w]
                    rfl
                  refine pure_ (i := 3) (N := some 42) (v := ?_) (a' := ?_) #[true, true, true, true, false, false, false, false, false, false, false, false, false, false, false, false, false, false, false, false, false, false, false, false, false, false, false] rfl rfl (by kernel_rfl) (fun _ _ _ h => h) (Or.inl ⟨by rfl, ?_⟩) ?_ ?_
                  rotate_left
                  · intro w'
                    go_simp
                    with_reducible rfl
                  rotate_left
                  · simp only [Act.put, List.setIfInBounds_toArray, List.set_cons_zero, List.set_cons_succ, i64_w, i32_w]
                    rfl
                  refine pure_ (i := 4) (N := some 43) (v := ?_) (a' := ?_) #[true, true, true, true, true, false, false, false, false, false, false, false, false, false, false, false, false, false, false, false, false, false, false, false, false, false, false] rfl rfl (by kernel_rfl) (fun _ _ _ h => h) (Or.inl ⟨by rfl, ?_⟩) ?_ ?_
                  rotate_left
                  · intro w'
                    go_simp
                    with_reducible rfl
                  rotate_left
                  · simp only [Act.put, List.setIfInBounds_toArray, List.set_cons_zero, List.set_cons_succ, i64_w, i32_w]
                    rfl
                  refine pure_ (i := 5) (N := some 44) (v := ?_) (a' := ?_) #[true, true, true, true, true, true, false, false, false, false, false, false, false, false, false, false, false, false, false, false, false, false, false, false, false, false, false] rfl rfl (by kernel_rfl) (fun _ _ _ h => h) (Or.inl ⟨by rfl, ?_⟩) ?_ ?_
                  rotate_left
                  · intro w'
                    go_simp
                    with_reducible rfl
                  rotate_left
                  · simp only [Act.put, List.setIfInBounds_toArray, List.set_cons_zero, List.set_cons_succ, i64_w, i32_w]
                    rfl
                  refine pure_ (i := 6) (N := some 45) (v := ?_) (a' := ?_) #[true, true, true, true, true, true, true, false, false, false, false, false, false, false, false, false, false, false, false, false, false, false, false, false, false, false, false] rfl rfl (by kernel_rfl) (fun _ _ _ h => h) (Or.inl ⟨by rfl, ?_⟩) ?_ ?_
                  rotate_left
                  · intro w'
                    go_simp
                    with_reducible rfl
                  rotate_left
                  · simp only [Act.put, List.setIfInBounds_toArray, List.set_cons_zero, List.set_cons_succ, i64_w, i32_w]
                    rfl
                  refine pure_ (i := 7) (N := some 46) (v := ?_) (a' := ?_) #[true, true, true, true, true, true, true, true, false, false, false, false, false, false, false, false, false, false, false, false, false, false, false, false, false, false, false] rfl rfl (by kernel_rfl) (fun _ _ _ h => h) (Or.inl ⟨by rfl, ?_⟩) ?_ ?_
                  rotate_left
                  · intro w'
                    go_simp
                    with_reducible rfl
                  rotate_left
                  · simp only [Act.put, List.setIfInBounds_toArray, List.set_cons_zero, List.set_cons_succ, i64_w, i32_w]
                    rfl
                  refine pure_ (i := 8) (N := some 47) (v := ?_) (a' := ?_) #[true, true, true, true, true, true, true, true, true, false, false, false, false, false, false, false, false, false, false, false, false, false, false, false, false, false, false] rfl rfl (by kernel_rfl) (fun _ _ _ h => h) (Or.inl ⟨by rfl, ?_⟩) ?_ ?_
                  rotate_left
                  · intro w'
                    go_simp
                    with_reducible rfl
                  rotate_left
                  · simp only [Act.put, List.setIfInBounds_toArray, List.set_cons_zero, List.set_cons_succ, i64_w, i32_w]
                    rfl
                  refine pure_ (i := 9) (N := some 48) (v := ?_) (a' := ?_) #[true, true, true, true, true, true, true, true, true, true, false, false, false, false, false, false, false, false, false, false, false, false, false, false, false, false, false] rfl rfl (by kernel_rfl) (fun _ _ _ h => h) (Or.inl ⟨by rfl, ?_⟩) ?_ ?_
                  rotate_left
                  · intro w'
                    go_simp
                    with_reducible rfl
                  rotate_left
                  · simp only [Act.put, List.setIfInBounds_toArray, List.set_cons_zero, List.set_cons_succ, i64_w, i32_w]
                    rfl
                  refine pure_ (i := 10) (N := some 49) (v := ?_) (a' := ?_) #[true, true, true, true, true, true, true, true, true, true, true, false, false, false, false, false, false, false, false, false, false, false, false, false, false, false, false] rfl rfl (by kernel_rfl) (fun _ _ _ h => h) (Or.inl ⟨by rfl, ?_⟩) ?_ ?_
                  rotate_left
                  · intro w'
                    go_simp
                    with_reducible rfl
                  rotate_left
                  · simp only [Act.put, List.setIfInBounds_toArray, List.set_cons_zero, List.set_cons_succ, i64_w, i32_w]
                    rfl
                  refine pure_ (i := 11) (N := some 50) (v := ?_) (a' := ?_) #[true, true, true, true, true, true, true, true, true, true, true, true, false, false, false, false, false, false, false, false, false, false, false, false, false, false, false] rfl rfl (by kernel_rfl) (fun _ _ _ h => h) (Or.inl ⟨by rfl, ?_⟩) ?_ ?_
                  rotate_left
                  · intro w'
                    go_simp
                    with_reducible rfl
                  rotate_left
                  · simp only [Act.put, List.setIfInBounds_toArray, List.set_cons_zero, List.set_cons_succ, i64_w, i32_w]
                    rfl
                  refine pure_ (i := 12) (N := some 51) (v := ?_) (a' := ?_) #[true, true, true, true, true, true, true, true, true, true, true, true, true, false, false, false, false, false, false, false, false, false, false, false, false, false, false] rfl rfl (by kernel_rfl) (fun _ _ _ h => h) (Or.inl ⟨by rfl, ?_⟩) ?_ ?_
                  rotate_left
                  · intro w'
                    go_simp
                    with_reducible rfl
                  rotate_left
                  · simp only [Act.put, List.setIfInBounds_toArray, List.set_cons_zero, List.set_cons_succ, i64_w, i32_w]
                    rfl
                  refine pure_ (i := 14) (N := some 53) (v := ?_) (a' := ?_) #[true, true, true, true, true, true, true, true, true, true, true, true, true, false, true, false, false, false, false, false, false, false, false, false, false, false, false] rfl rfl (by kernel_rfl) (fun _ _ _ h => h) (Or.inl ⟨by rfl, ?_⟩) ?_ ?_
                  rotate_left
                  · intro w'
                    go_simp
                    with_reducible rfl
                  rotate_left
                  · simp only [Act.put, List.setIfInBounds_toArray, List.set_cons_zero, List.set_cons_succ, i64_w, i32_w]
                    rfl
                  refine pure_ (i := 15) (N := some 54) (v := ?_) (a' := ?_) #[true, true, true, true, true, true, true, true, true, true, true, true, true, false, true, true, false, false, false, false, false, false, false, false, false, false, false] rfl rfl (by kernel_rfl) (fun _ _ _ h => h) (Or.inl ⟨by rfl, ?_⟩) ?_ ?_
                  rotate_left
                  · intro w'
                    go_simp
                    with_reducible rfl
                  rotate_left
                  · simp only [Act.put, List.setIfInBounds_toArray, List.set_cons_zero, List.set_cons_succ, i64_w, i32_w]
                    rfl
                  refine pure_ (i := 16) (N := some 55) (v := ?_) (a' := ?_) #[true, true, true, true, true, true, true, true, true, true, true, true, true, false, true, true, true, false, false, false, false, false, false, false, false, false, false] rfl rfl (by kernel_rfl) (fun _ _ _ h => h) (Or.inl ⟨by rfl, ?_⟩) ?_ ?_
                  rotate_left
                  · intro w'
                    go_simp
                    with_reducible rfl
                  rotate_left
                  · simp only [Act.put, List.setIfInBounds_toArray, List.set_cons_zero, List.set_cons_succ, i64_w, i32_w]
                    rfl
                  refine pure_ (i := 17) (N := some 56) (v := ?_) (a' := ?_) #[true, true, true, true, true, true, true, true, true, true, true, true, true, false, true, true, true, true, false, false, false, false, false, false, false, false, false] rfl rfl (by kernel_rfl) (fun _ _ _ h => h) (Or.inl ⟨by rfl, ?_⟩) ?_ ?_
                  rotate_left
                  · intro w'
                    go_simp
                    with_reducible rfl
                  rotate_left
                  · simp only [Act.put, List.setIfInBounds_toArray, List.set_cons_zero, List.set_cons_succ, i64_w, i32_w]
                    rfl
                  refine pure_ (i := 18) (N := some 57) (v := ?_) (a' := ?_) #[true, true, true, true, true, true, true, true, true, true, true, true, true, false, true, true, true, true, true, false, false, false, false, false, false, false, false] rfl rfl (by kernel_rfl) (fun _ _ _ h => h) (Or.inl ⟨by rfl, ?_⟩) ?_ ?_
                  rotate_left
                  · intro w'
                    go_simp
                    with_reducible rfl
                  rotate_left
                  · simp only [Act.put, List.setIfInBounds_toArray, List.set_cons_zero, List.set_cons_succ, i64_w, i32_w]
                    rfl
                  refine pure_ (i := 21) (N := some 60) (v := ?_) (a' := ?_) #[true, true, true, true, true, true, true, true, true, true, true, true, true, false, true, true, true, true, true, false, false, true, false, false, false, false, false] rfl rfl (by kernel_rfl) (fun _ _ _ h => h) (Or.inl ⟨by rfl, ?_⟩) ?_ ?_
                  rotate_left
                  · intro w'
                    go_simp
                    with_reducible rfl
                  rotate_left
                  · simp only [Act.put, List.setIfInBounds_toArray, List.set_cons_zero, List.set_cons_succ, i64_w, i32_w]
                    rfl
                  refine pure_ (i := 22) (N := some 61) (v := ?_) (a' := ?_) #[true, true, true, true, true, true, true, true, true, true, true, true, true, false, true, true, true, true, true, false, false, true, true, false, false, false, false] rfl rfl (by kernel_rfl) (fun _ _ _ h => h) (Or.inl ⟨by rfl, ?_⟩) ?_ ?_
                  rotate_left
                  · intro w'
                    go_simp
                    with_reducible rfl
                  rotate_left
                  · simp only [Act.put, List.setIfInBounds_toArray, List.set_cons_zero, List.set_cons_succ, i64_w, i32_w]
                    rfl
                  refine pure_ (i := 23) (N := some 62) (v := ?_) (a' := ?_) #[true, true, true, true, true, true, true, true, true, true, true, true, true, false, true, true, true, true, true, false, false, true, true, true, false, false, false] rfl rfl (by kernel_rfl) (fun _ _ _ h => h) (Or.inl ⟨by rfl, ?_⟩) ?_ ?_
                  rotate_left
                  · intro w'
                    go_simp
                    with_reducible rfl
                  rotate_left
                  · simp only [Act.put, List.setIfInBounds_toArray, List.set_cons_zero, List.set_cons_succ, i64_w, i32_w]
                    rfl
                  refine pure_ (i := 24) (N := some 63) (v := ?_) (a' := ?_) #[true, true, true, true, true, true, true, true, true, true, true, true, true, false, true, true, true, true, true, false, false, true, true, true, true, false, false] rfl rfl (by kernel_rfl) (fun _ _ _ h => h) (Or.inl ⟨by rfl, ?_⟩) ?_ ?_
                  rotate_left
                  · intro w'
                    go_simp
                    with_reducible rfl
                  rotate_left
                  · simp only [Act.put, List.setIfInBounds_toArray, List.set_cons_zero, List.set_cons_succ, i64_w, i32_w]
                    rfl
                  refine take_ (i := 13) (N := some 52) (v := ?_) (a' := ?_) #[true, true, true, true, true, true, true, true, true, true, true, true, true, true, true, true, true, true, true, false, false, true, true, true, true, false, false] rfl rfl (by kernel_rfl) (fun _ _ _ h => h) (Or.inl ⟨by rfl, ?_⟩) hHeld ?_ ?_
                  rotate_left
                  · intro w' s0
                    go_simp
                    with_reducible rfl
                  rotate_left
                  · simp only [Act.put, List.setIfInBounds_toArray, List.set_cons_zero, List.set_cons_succ, i64_w, i32_w]
                    rfl
                  refine one_ (i := 19) (N := some 58) #[true, true, true, true, true, true, true, true, true, true, true, true, true, true, true, true, true, true, true, true, false, true, true, true, true, false, false] rfl rfl (by kernel_rfl) (by decide) (fun K hK => ?_)
                  refine goes_ Try.func113 (by kernel_rfl) rfl #[.pointer (some ⟨b, 0, none⟩), .int .i64 (e : Int), .int .i64 (n : Int), .int .i64 (s : Int), .int .i64 (f : Int)] (by rfl) rfl rfl (by simp only [List.map_toArray, List.map_cons, List.map_nil]; rfl) ?_
                  with_reducible refine (FC.out _ (below_drew1 (Below.refl _ _))).mono ?_
                  rintro e_ w_1 ⟨rfl, hd_⟩
                  refine ⟨_, rfl, ?_⟩
                  have HD := Aside0.mk (Hx.undrew hd_.below)
                  have fm1 := (HT.out.2.ct.below HD.out).cell (3 + e * 122 + n * 2 + s)
                  clear hd_
                  refine hK.out _ _ (pw_cell_below HD.out gm) (fun hHeld => ?_)
                  clear hK K
                  refine norm_ (a' := ?_) ?_ ?_
                  rotate_left
                  · show Act.put _ (some 58) _ = _
                    simp only [Act.put, List.setIfInBounds_toArray, List.set_cons_zero, List.set_cons_succ, i64_w, i32_w]
                    rfl
                  refine pure_ (i := 20) (N := some 59) (v := ?_) (a' := ?_) #[true, true, true, true, true, true, true, true, true, true, true, true, true, true, true, true, true, true, true, true, true, true, true, true, true, false, false] rfl rfl (by kernel_rfl) (fun _ _ _ h => h) (Or.inl ⟨by rfl, ?_⟩) ?_ ?_
                  rotate_left
                  · intro w'
                    go_simp
                    with_reducible rfl
                  rotate_left
                  · simp only [Act.put, List.setIfInBounds_toArray, List.set_cons_zero, List.set_cons_succ, i64_w, i32_w]
                    rfl
                  refine pure_ (i := 25) (N := some 64) (v := ?_) (a' := ?_) #[true, true, true, true, true, true, true, true, true, true, true, true, true, true, true, true, true, true, true, true, true, true, true, true, true, true, false] rfl rfl (by kernel_rfl) (fun _ _ _ h => h) (Or.inl ⟨by rfl, ?_⟩) ?_ ?_
                  rotate_left
                  · intro w'
                    go_simp
                    with_reducible rfl
                  rotate_left
                  · simp only [Act.put, List.setIfInBounds_toArray, List.set_cons_zero, List.set_cons_succ, i64_w, i32_w]
                    rfl
                  refine last_ (i := 26) (N := none) #[true, true, true, true, true, true, true, true, true, true, true, true, true, true, true, true, true, true, true, true, true, true, true, true, true, true, true] rfl rfl (by kernel_rfl) (by decide) (fun K hK => ?_)
                  refine skip_ (w1 := ?_) (by rfl) rfl ?_ ?_
                  rotate_left
                  · go_simp
                    rfl
                  refine hK.out _ _ ?_
                  clear hK K
                  refine done_ (by kernel_rfl) ?_
                  have wf : IntKind.i64.wrap ((f : Int) + 1) = (f : Int) + 1 := Hw.wrap_w (by omega) (by have := HL4.out; have := HL.out; omega)
                  go_wp2
                  all_goals
                    go_roundg (n - f)
                    case measure => have := HK4.out; have := HL4.out; omega
                    case rel =>
                      have h_ : mnF (cFst p e n s) f = min m x := by rw [HM.out.1, HM.out.2, HL4.out.2]; rfl
                      refine ⟨f, rfl, ⟨by have := HK4.out; have := HL4.out; omega⟩, ⟨fun _ => by have := HL4.out; omega, ?_⟩, ⟨below_set (Hx.bb_below HD.out HB.out) (by have := HBB.out; omega)⟩⟩
                      first
                        | (rw [h_, show min m x = x by omega]; exact (HT.out.2.ct.below HD.out).put HK.out.1 (by have := HL.out; omega) HL2.out HL3.out _)
                        | (rw [h_, show min m x = m by omega]; exact (HT.out.2.ct.below HD.out).put HK.out.1 (by have := HL.out; omega) HL2.out HL3.out _)
                · have HE : Aside0 (CT wr b p (((n - 1) * 11 + e) * 2 + s + 1)) := ⟨HT.out.2.done HK.out.1 (by have := HL.out; omega) HL2.out HL3.out (by
                    have h1 := HT.out.1
                    have h2 := HK4.out
                    have h3 := HK.out.1
                    by_cases he : e = 0
                    · rw [h1 he, he, cst_none p s h3]; rfl
                    · rw [cst_eq p s h3 (by omega), show f0 = n by omega])⟩
                  have ws : IntKind.i64.wrap ((s : Int) + 1) = ((s + 1 : Nat) : Int) := Hw.wrap_w (by omega) (by have := HL3.out; omega)
                  have HN := Aside0.mk hlf
                  have h1 := HT.out.1
                  have HF := Aside0.mk HT.out.1
                  clear HT h1
                  by_cases hfn : f0 < n
                  · have d4 : decide ((f0 : Int) + 1 ≤ (n : Int)) = true := decide_eq_true (by omega)
                    have d6 : ((f0 : Int) + 1 ≤ (n : Int)) = True := eq_true (by omega)
                    have d5 : decide ((0 : Int) < (e : Int)) = false := decide_eq_false (by omega)
                    have d7 : (0 < e) = False := eq_false (by omega)
                    clear hlf hfn
                    go_wp2
                    go_roundg (2 - (s + 1))
                    case measure => have := HK3.out; have := HL3.out; omega
                    case rel => exact ⟨s + 1, rfl, ⟨by have := HK3.out; have := HL3.out; omega⟩, HE, HB⟩
                  · have d4 : decide ((f0 : Int) + 1 ≤ (n : Int)) = false := decide_eq_false (by omega)
                    have d6 : ((f0 : Int) + 1 ≤ (n : Int)) = False := eq_false (by omega)
                    clear hlf hfn
                    go_wp2
                    go_roundg (2 - (s + 1))
                    case measure => have := HK3.out; have := HL3.out; omega
                    case rel => exact ⟨s + 1, rfl, ⟨by have := HK3.out; have := HL3.out; omega⟩, HE, HB⟩
            · have d3 : decide ((s : Int) < 2) = false := decide_eq_false (by omega)
              have d3' : ((s : Int) < 2) = False := eq_false (by omega)
              have we : IntKind.i64.wrap ((e : Int) + 1) = ((e + 1 : Nat) : Int) := Hw.wrap_w (by omega) (by have := HL2.out; omega)
              have HE : Aside0 (CT wr b p ((n - 1) * 22 + (e + 1) * 2)) := ⟨by have h_ := HT.out; rw [show ((n - 1) * 11 + e) * 2 + s = (n - 1) * 22 + (e + 1) * 2 by have := HK3.out; omega] at h_; exact h_⟩
              clear hls HT
              go_wp2
              go_roundg (11 - (e + 1))
              case measure => have := HK2.out; have := HL2.out; omega
              case rel => exact ⟨e + 1, rfl, ⟨by have := HK2.out; have := HL2.out; omega⟩, HE, HB⟩
        · have d2 : decide ((e : Int) < 11) = false := decide_eq_false (by omega)
          have d2' : ((e : Int) < 11) = False := eq_false (by omega)
          have wn : IntKind.i64.wrap ((n : Int) + 1) = ((n + 1 : Nat) : Int) := Hw.wrap_w (by omega) (by have := HL.out; omega)
          have HE : Aside0 (CT wr b p ((n + 1 - 1) * 22)) := ⟨by have h_ := HT.out; rw [show (n - 1) * 22 + e * 2 = (n + 1 - 1) * 22 by have := HK2.out; have := HK.out; omega] at h_; exact h_⟩
          clear hle HT
          go_wp2
          go_roundg (60 - n)
          case measure => have := HK.out; have := HL.out; omega
          case rel => exact ⟨n + 1, rfl, ⟨by have := HK.out; have := HL.out; omega⟩, HE, HB⟩
    · have d1 : decide ((n : Int) ≤ 60) = false := decide_eq_false (by omega)
      have d1' : ((n : Int) ≤ 60) = False := eq_false (by omega)
      have HE : Aside0 (Cst wr b p) := ⟨by have h_ := HT.out; rw [show (n - 1) * 22 = 1320 by have := HK.out; omega] at h_; exact h_⟩
      clear hlt HT
      go_wp2
      go_ret
      exact ⟨b, rfl, by have := HBB.out; omega, HE.out, HB.out⟩

def cAsk (a0 a1 a2 a3 a4 : Int) : Bool := decide ((0 ≤ a0 ∧ a0 ≤ 1000) ∧ (0 ≤ a1 ∧ a1 ≤ 1000) ∧ (0 ≤ a2 ∧ a2 ≤ 1000) ∧ (1 ≤ a3 ∧ a3 ≤ 10) ∧ (0 ≤ a4 ∧ a4 ≤ 60))
theorem within_is (a b c : Int) : impl_within.f a b c = some (decide (b ≤ a ∧ a ≤ c)) := by
  unfold impl_within.f
  by_cases h : b ≤ a <;> simp [h]
theorem isCostly_is (a0 a1 a2 a3 a4 : Int) : impl_isCostly.f a0 a1 a2 a3 a4 = some (cAsk a0 a1 a2 a3 a4) := by
  unfold impl_isCostly.f impl_ArePrices.f impl_isPrice.f impl_isEggs.f cAsk
  simp only [within_is, Option.bind_some]
  by_cases h0 : 0 ≤ a0 ∧ a0 ≤ 1000 <;> by_cases h1 : 0 ≤ a1 ∧ a1 ≤ 1000 <;> by_cases h2 : 0 ≤ a2 ∧ a2 ≤ 1000 <;> by_cases h3 : 1 ≤ a3 ∧ a3 ≤ 10 <;> simp [h0, h1, h2, h3]


/-! ### spec_csCan: function 143 -/
def spec_csCan.f (a0 : Int) (a1 : Int) : Option (Bool) := if a0 > 1 then (some true) else (some (a1 == 0))
set_option maxHeartbeats 8000000 in
set_option maxRecDepth 100000 in
theorem spec_csCan.calls (a0 : Int) (a1 : Int) (r : Bool) (w : World) (h : spec_csCan.f a0 a1 = some r) :
    Calls Try.prog 143 #[.int .i64 a0, .int .i64 a1] w fun e w' => e = .returned (.bool r) ∧ Drawn0 w w' := by
  have H : (if a0 > 1 then (some true) else (some (a1 == 0))) = some r := h
  clear h
  by_cases c3 : a0 > 1
  · rw [if_pos c3] at H
    have c3b0 : decide (1 < a0) = true := decide_eq_true c3
    clear c3
    obtain rfl := Option.some.inj H
    go_enter Try.func143, Try.ntmps143
    go_wp2
    go_ret
    exact ⟨by first | rfl | (simp; done) | (simp [*]; done), by repeat (first | exact Drawn0.refl _ | apply Drawn0.step)⟩
  · rw [if_neg c3] at H
    have c3b0 : decide (1 < a0) = false := decide_eq_false c3
    clear c3
    obtain rfl := Option.some.inj H
    go_enter Try.func143, Try.ntmps143
    go_wp2
    go_ret
    exact ⟨by first | rfl | (simp; done) | (simp [*]; done), by repeat (first | exact Drawn0.refl _ | apply Drawn0.step)⟩

/-! ### spec_l1Most: function 133 -/
def spec_l1Most.f (a0 : Int) (a1 : Int) : Option (Int) := if a0 > a1 then (some a0) else (some a1)
set_option maxHeartbeats 8000000 in
set_option maxRecDepth 100000 in
theorem spec_l1Most.calls (a0 : Int) (a1 : Int) (r : Int) (w : World) (h : spec_l1Most.f a0 a1 = some r) :
    Calls Try.prog 133 #[.int .i64 a0, .int .i64 a1] w fun e w' => e = .returned (.int .i64 r) ∧ Drawn0 w w' := by
  have H : (if a0 > a1 then (some a0) else (some a1)) = some r := h
  clear h
  by_cases c3 : a0 > a1
  · rw [if_pos c3] at H
    have c3b0 : decide (a1 < a0) = true := decide_eq_true c3
    clear c3
    obtain rfl := Option.some.inj H
    go_enter Try.func133, Try.ntmps133
    go_wp2
    go_ret
    exact ⟨by first | rfl | (simp; done) | (simp [*]; done), by repeat (first | exact Drawn0.refl _ | apply Drawn0.step)⟩
  · rw [if_neg c3] at H
    have c3b0 : decide (a1 < a0) = false := decide_eq_false c3
    clear c3
    obtain rfl := Option.some.inj H
    go_enter Try.func133, Try.ntmps133
    go_wp2
    go_ret
    exact ⟨by first | rfl | (simp; done) | (simp [*]; done), by repeat (first | exact Drawn0.refl _ | apply Drawn0.step)⟩

/-! ### spec_l1Abs: function 146 -/
def spec_l1Abs.f (a0 : Int) : Option (Int) := (spec_l1Most.f a0 (wrap64 (-a0))).bind fun t126 => (some t126)
set_option maxHeartbeats 8000000 in
set_option maxRecDepth 100000 in
theorem spec_l1Abs.calls (a0 : Int) (r : Int) (w : World) (h : spec_l1Abs.f a0 = some r) :
    Calls Try.prog 146 #[.int .i64 a0] w fun e w' => e = .returned (.int .i64 r) ∧ Drawn0 w w' := by
  have H : ((spec_l1Most.f a0 (wrap64 (-a0))).bind fun t126 => (some t126)) = some r := h
  clear h
  replace H := Option.bind_eq_some_iff.mp H
  obtain ⟨t126, A20, H⟩ := H
  replace H : (some t126) = some r := H
  have A2 := Aside0.mk A20
  clear A20
  obtain rfl := Option.some.inj H
  go_enter Try.func146, Try.ntmps146
  go_wp2_with (first | ((with_reducible refine gate_callee (f := 133) rfl ?_); refine goesL_ (some 6) rfl rfl Try.func133 (by kernel_rfl) rfl #[.int .i64 a0, .int .i64 (wrap64 (-a0))] rfl (by (try simp only [List.map_toArray, List.map_cons, List.map_nil]); first | done | rfl | (simp only [List.length_drop, List.length_take]; rfl)) ?_; (with_reducible refine (spec_l1Most.calls a0 (wrap64 (-a0)) t126 _ A2.out).mono ?_); rintro e w' ⟨rfl, ⟨nd, rfl⟩⟩; refine ⟨_, rfl, ?_⟩))
  go_ret
  exact ⟨by first | rfl | (simp; done) | (simp [*]; done), by repeat (first | exact Drawn0.refl _ | apply Drawn0.step)⟩

end Go.Proofs.Ytoomacelbhojhaa.E
