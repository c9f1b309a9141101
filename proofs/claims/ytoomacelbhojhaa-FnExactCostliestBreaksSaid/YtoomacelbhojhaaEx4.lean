/- Plain Lean functions with the answers of Go functions, and proofs of it: printed by a program of this session (pr.py) over the kit's print, with hand-written parts. -/
import Derived.Test.YtoomacelbhojhaaEx0
import Derived.Test.YtoomacelbhojhaaEx2
import Derived.Test.YtoomacelbhojhaaEx3
namespace Go.Proofs.Ytoomacelbhojhaa.E
open Go.RowKit Go.Proofs.YtoomacelbhojhaaW.PrintWords Go.Proofs.YtoomacelbhojhaaW.PrintLast Go.Proofs.YtoomacelbhojhaaW.PrintMore
attribute [local go_sem] max2_int min2_int max_two min_two max_three min_three max_four min_four   -- for this text's walks alone
set_option linter.unusedVariables false
set_option linter.unusedSimpArgs false

-- FOR (*spec.csTable).by
-- CALLS (*impl.coster).first ; spec.l1Abs ; spec.l1Most
/-! ### The reference's tables -/
structure TS where
  gg : Bool → Nat
  cc : Bool → Nat
  rr : Bool → Nat → Nat
  E : Nat
  N : Nat
def tbCells (p : CP) (t : TS) : Array Value := #[.int .i64 p.e, .int .i64 p.t, .int .i64 p.c, .slice (some ⟨t.gg false, 0, none⟩) (t.E + 1) (t.cc false), .slice (some ⟨t.gg true, 0, none⟩) (t.E + 1) (t.cc true)]
def Bx (w : World) (g : Nat) (p : CP) (t : TS) : Prop := w.heap[g]? = some (.cells (tbCells p t) 81 (0, 0))
def Rows (w : World) (t : TS) (V : Bool → Nat → Nat → Int) : Prop :=
  (∀ s, ∃ arr, w.heap[t.gg s]? = some (.cells arr 46 (0, 0)) ∧ ∀ e, e ≤ t.E → arr[e]? = some (.slice (some ⟨t.rr s e, 0, none⟩) (t.N + 1) (t.N + 1))) ∧
  (∀ s e, e ≤ t.E → ∃ arr, w.heap[t.rr s e]? = some (.cells arr 3 (0, 0)) ∧ ∀ n, n ≤ t.N → arr[n]? = some (.int .i64 (V s e n)))
def TS.Apart (t : TS) : Prop := ∀ s e s' e', e ≤ t.E → e' ≤ t.E → t.rr s e = t.rr s' e' → s = s' ∧ e = e'
theorem Bx.below {w w' : World} {g : Nat} {p : CP} {t : TS} (h : Bx w g p t) (hb : Below w.heap.size w w') : Bx w' g p t := Hx.b_below hb h
theorem Rows.below {w w' : World} {t : TS} {V : Bool → Nat → Nat → Int} (h : Rows w t V) (hb : Below w.heap.size w w') : Rows w' t V := by
  refine ⟨fun s => ?_, fun s e he => ?_⟩
  · obtain ⟨arr, a, b⟩ := h.1 s
    exact ⟨arr, Hx.b_below hb a, b⟩
  · obtain ⟨arr, a, b⟩ := h.2 s e he
    exact ⟨arr, Hx.b_below hb a, b⟩
theorem Bx.cells {w : World} {g : Nat} {p : CP} {t : TS} (h : Bx w g p t) : w.cell? ⟨g, 0, none⟩ = some (.int .i64 p.e) ∧ w.cell? ⟨g, 1, none⟩ = some (.int .i64 p.t) ∧ w.cell? ⟨g, 2, none⟩ = some (.int .i64 p.c) ∧ w.cell? ⟨g, 3, none⟩ = some (.slice (some ⟨t.gg false, 0, none⟩) (t.E + 1) (t.cc false)) ∧ w.cell? ⟨g, 4, none⟩ = some (.slice (some ⟨t.gg true, 0, none⟩) (t.E + 1) (t.cc true)) :=
  ⟨(blk_cell h 0).trans rfl, (blk_cell h 1).trans rfl, (blk_cell h 2).trans rfl, (blk_cell h 3).trans rfl, (blk_cell h 4).trans rfl⟩
theorem Rows.head {w : World} {t : TS} {V : Bool → Nat → Nat → Int} (h : Rows w t V) (s : Bool) {e : Nat} (he : e ≤ t.E) : w.cell? ⟨t.gg s, e, none⟩ = some (.slice (some ⟨t.rr s e, 0, none⟩) (t.N + 1) (t.N + 1)) := by
  obtain ⟨arr, a, b⟩ := h.1 s
  exact (blk_cell a e).trans (b e he)
theorem Rows.cell {w : World} {t : TS} {V : Bool → Nat → Nat → Int} (h : Rows w t V) (s : Bool) {e n : Nat} (he : e ≤ t.E) (hn : n ≤ t.N) : w.cell? ⟨t.rr s e, n, none⟩ = some (.int .i64 (V s e n)) ∧ w.frozen? ⟨t.rr s e, n, none⟩ = false := by
  obtain ⟨arr, a, b⟩ := h.2 s e he
  exact ⟨(blk_cell a n).trans (b n hn), blk_frozen a n⟩
theorem Rows.ne {w : World} {t : TS} {V : Bool → Nat → Nat → Int} (h : Rows w t V) (s s' : Bool) {e : Nat} (he : e ≤ t.E) : t.rr s e ≠ t.gg s' := by
  intro hh
  obtain ⟨arr, a, _⟩ := h.2 s e he
  obtain ⟨arr', a', _⟩ := h.1 s'
  rw [hh, a'] at a
  cases a
theorem Bx.ne {w : World} {g : Nat} {p : CP} {t : TS} {V : Bool → Nat → Nat → Int} (hb : Bx w g p t) (h : Rows w t V) (s : Bool) {e : Nat} (he : e ≤ t.E) : g ≠ t.rr s e := by
  intro hh
  obtain ⟨arr, a, _⟩ := h.2 s e he
  rw [← hh] at a
  rw [show w.heap[g]? = _ from hb] at a
  cases a
theorem Bx.put {w : World} {g : Nat} {p : CP} {t : TS} {V : Bool → Nat → Nat → Int} (hb : Bx w g p t) (h : Rows w t V) (s : Bool) {e : Nat} (he : e ≤ t.E) (n : Nat) (v : Value) : Bx (w.setCell ⟨t.rr s e, n, none⟩ v) g p t :=
  blk_far hb (hb.ne h s he) v
def putV (V : Bool → Nat → Nat → Int) (s : Bool) (e n : Nat) (v : Int) : Bool → Nat → Nat → Int := fun s' e' n' => if s' = s ∧ e' = e ∧ n' = n then v else V s' e' n'
theorem Rows.put {w : World} {t : TS} {V : Bool → Nat → Nat → Int} (h : Rows w t V) (ha : t.Apart) (s : Bool) {e n : Nat} (he : e ≤ t.E) (hn : n ≤ t.N) (v : Int) : Rows (w.setCell ⟨t.rr s e, n, none⟩ (.int .i64 v)) t (putV V s e n v) := by
  refine ⟨fun s' => ?_, fun s' e' he' => ?_⟩
  · obtain ⟨arr, a, b⟩ := h.1 s'
    exact ⟨arr, blk_far a (fun hh => h.ne s s' he hh.symm) _, b⟩
  · obtain ⟨arr, a, b⟩ := h.2 s' e' he'
    by_cases hh : s' = s ∧ e' = e
    · obtain ⟨rfl, rfl⟩ := hh
      refine ⟨_, blk_set a n (.int .i64 v), fun n' hn' => ?_⟩
      rw [Array.getElem?_setIfInBounds]
      unfold putV
      by_cases h2 : n = n'
      · subst h2
        have hs : n < arr.size := by
          have := b n hn
          exact (Array.getElem?_eq_some_iff.1 this).1
        rw [if_pos rfl, if_pos hs, if_pos ⟨rfl, rfl, rfl⟩]
      · rw [if_neg h2, if_neg (fun h3 => h2 h3.2.2.symm)]
        exact b n' hn'
    · refine ⟨arr, blk_far a (fun h2 => hh (by have := ha _ _ _ _ he' he h2; exact this)) _, fun n' hn' => ?_⟩
      unfold putV
      rw [if_neg (fun h3 => hh ⟨h3.1, h3.2.1⟩)]
      exact b n' hn'
theorem cmost_is (a b : Int) : spec_l1Most.f a b = some (max a b) := by unfold spec_l1Most.f; split <;> (congr 1; omega)
theorem cabs_is {s n f : Nat} (h1 : 1 ≤ f) (h2 : f ≤ n) (h3 : n ≤ 60) (hs : s ≤ 1) : spec_l1Abs.f ((if s = 1 then (n : Int) + 1 else 0) - (f : Int)) = some (cWay s n f) := by
  unfold spec_l1Abs.f cWay
  rw [cmost_is]
  have hw : wrap64 (-((if s = 1 then (n : Int) + 1 else 0) - (f : Int))) = -((if s = 1 then (n : Int) + 1 else 0) - (f : Int)) := Hw.wrap_id (by split <;> omega) (by split <;> omega)
  rw [hw]
  simp only [Option.bind_some, Option.some.injEq]
  split <;> omega

set_option maxHeartbeats 8000000 in
set_option maxRecDepth 100000 in
theorem csby.calls (w : World) (g : Nat) (p : CP) (t : TS) (V : Bool → Nat → Nat → Int) (e n s f : Nat) (hb : Bx w g p t) (hR : Rows w t V) (hp : p.Ok) (hd : 1 ≤ e ∧ e ≤ t.E ∧ t.E ≤ 10 ∧ 1 ≤ f ∧ f ≤ n ∧ n ≤ t.N ∧ t.N ≤ 60 ∧ s ≤ 1)
    (hL : V false e (n - f) = cst p e (n - f) 0) (hH : V true (e - 1) (f - 1) = cst p (e - 1) (f - 1) 1) :
    Calls Try.prog 144 #[.pointer (some ⟨g, 0, none⟩), .int .i64 (e : Int), .int .i64 (n : Int), .int .i64 (if s = 1 then (n : Int) + 1 else 0), .int .i64 (f : Int)] w fun e_ w' => e_ = .returned (.int .i64 (cFst p e n s f)) ∧ Below w.heap.size w w' := by
  have HA := Aside0.mk (cabs_is (s := s) (n := n) (f := f) (by omega) (by omega) (by omega) (by omega))
  have hy := cWay_bd (s := s) (n := n) (f := f) (by omega) (by omega)
  obtain ⟨y, hy2⟩ : ∃ y : Int, y = cWay s n f := ⟨_, rfl⟩
  have hm := cMul_bd hp (x := y) (by omega) (by omega)
  obtain ⟨v1, hv1⟩ : ∃ v1, v1 = cst p (e - 1) (f - 1) 1 := ⟨_, rfl⟩
  obtain ⟨v0, hv0⟩ : ∃ v0, v0 = cst p e (n - f) 0 := ⟨_, rfl⟩
  have b1 := cst_lo hp (e - 1) (f - 1) 1
  have b2 := cst_hi p (e - 1) (f - 1) 1
  have b3 := cst_lo hp e (n - f) 0
  have b4 := cst_hi p e (n - f) 0
  have hF : cFst p e n s f = p.t + p.c * y + max (p.e + v1) v0 := by rw [hy2, hv1, hv0]; rfl
  rw [hF]
  obtain ⟨frm, hfr⟩ : ∃ frm : Int, frm = (if s = 1 then (n : Int) + 1 else 0) := ⟨_, rfl⟩
  have hfb : 0 ≤ frm ∧ frm ≤ 61 := by rw [hfr]; split <;> omega
  rw [← hfr] at HA ⊢
  obtain ⟨x, hx⟩ : ∃ x : Int, x = frm - f := ⟨_, rfl⟩
  rw [← hx, ← hy2] at HA
  obtain ⟨c0, d1, d2, c3, c4⟩ := hb.cells
  have ch1 := hR.head true (e := e - 1) (by omega)
  have ch2 := (hR.cell true (e := e - 1) (n := f - 1) (by omega) (by omega)).1
  have cl1 := hR.head false (e := e) (by omega)
  have cl2 := (hR.cell false (e := e) (n := n - f) (by omega) (by omega)).1
  rw [hH, ← hv1] at ch2
  rw [hL, ← hv0] at cl2
  obtain ⟨gh, hgh⟩ : ∃ x, x = t.gg true := ⟨_, rfl⟩
  obtain ⟨gl, hgl⟩ : ∃ x, x = t.gg false := ⟨_, rfl⟩
  obtain ⟨rh, hrh⟩ : ∃ x, x = t.rr true (e - 1) := ⟨_, rfl⟩
  obtain ⟨rl, hrl⟩ : ∃ x, x = t.rr false e := ⟨_, rfl⟩
  obtain ⟨ch, hch⟩ : ∃ x, x = t.cc true := ⟨_, rfl⟩
  obtain ⟨cl, hcl⟩ : ∃ x, x = t.cc false := ⟨_, rfl⟩
  obtain ⟨M, hM⟩ : ∃ x, x = t.E := ⟨_, rfl⟩
  obtain ⟨K, hK⟩ : ∃ x, x = t.N := ⟨_, rfl⟩
  rw [← hgh, ← hch, ← hM] at c4
  rw [← hgl, ← hcl, ← hM] at c3
  rw [← hgh, ← hrh, ← hK] at ch1
  rw [← hrh] at ch2
  rw [← hgl, ← hrl, ← hK] at cl1
  rw [← hrl] at cl2
  rw [← hM, ← hK] at hd
  obtain ⟨E1, hE1⟩ : ∃ E1 : Int, E1 = (e : Int) - 1 := ⟨_, rfl⟩
  obtain ⟨F1, hF1⟩ : ∃ F1 : Int, F1 = (f : Int) - 1 := ⟨_, rfl⟩
  obtain ⟨G1, hG1⟩ : ∃ G1 : Int, G1 = (n : Int) - f := ⟨_, rfl⟩
  rw [show e - 1 = E1.toNat by omega] at ch1
  rw [show f - 1 = F1.toNat by omega] at ch2
  rw [show n - f = G1.toNat by omega] at cl2
  have wE : IntKind.i64.wrap ((e : Int) - 1) = E1 := by rw [hE1]; exact Hw.wrap_w (by omega) (by omega)
  have wF : IntKind.i64.wrap ((f : Int) - 1) = F1 := by rw [hF1]; exact Hw.wrap_w (by omega) (by omega)
  have wG : IntKind.i64.wrap ((n : Int) - f) = G1 := by rw [hG1]; exact Hw.wrap_w (by omega) (by omega)
  have wx : IntKind.i64.wrap (frm - f) = x := by rw [hx]; exact Hw.wrap_w (by omega) (by omega)
  unfold CP.Ok at hp
  unfold cNever at b2 b4
  have wa : IntKind.i64.wrap (p.c * y) = p.c * y := Hw.wrap_w (by omega) (by omega)
  have wb : IntKind.i64.wrap (p.t + p.c * y) = p.t + p.c * y := Hw.wrap_w (by omega) (by omega)
  have wc : IntKind.i64.wrap (p.e + v1) = p.e + v1 := Hw.wrap_w (by omega) (by omega)
  have WD : Aside0 (wrap64 (p.t + p.c * y + max (p.e + v1) v0) = p.t + p.c * y + max (p.e + v1) v0) := ⟨Hw.wrap_id (by omega) (by omega)⟩
  have wd : IntKind.i64.wrap (p.t + p.c * y + max (p.e + v1) v0) = p.t + p.c * y + max (p.e + v1) v0 := Hw.wrap_w (by omega) (by omega)
  have g1 : (0 ≤ E1) = True := eq_true (by omega)
  have g2 : (E1 < (M : Int) + 1) = True := eq_true (by omega)
  have g2' : (E1 < ((M + 1 : Nat) : Int)) = True := eq_true (by omega)
  have g3 : (0 ≤ F1) = True := eq_true (by omega)
  have g4 : (F1 < (K : Int) + 1) = True := eq_true (by omega)
  have g4' : (F1 < ((K + 1 : Nat) : Int)) = True := eq_true (by omega)
  have g5 : (0 ≤ G1) = True := eq_true (by omega)
  have g6 : (G1 < (K : Int) + 1) = True := eq_true (by omega)
  have g6' : (G1 < ((K + 1 : Nat) : Int)) = True := eq_true (by omega)
  have g7 : ((0 : Int) ≤ (e : Int)) = True := eq_true (by omega)
  have g8 : ((e : Int) < (M : Int) + 1) = True := eq_true (by omega)
  have g8' : (e < M + 1) = True := eq_true (by omega)
  have g8'' : ((e : Int) < ((M + 1 : Nat) : Int)) = True := eq_true (by omega)
  clear hy hy2 hm hv1 hv0 b1 b2 b3 b4 hF hfr hfb hx hb hR hgh hgl hrh hrl hch hcl hM hK hd hE1 hF1 hG1 hp hL hH
  go_enter Try.func144, Try.ntmps144
  go_upto_region 1 with fail
  refine start_ (n := 19) (S := fun w' => w'.cell? ⟨g, 0, none⟩ = some (.int .i64 p.e) ∧ w'.cell? ⟨g, 4, none⟩ = some (.slice (some ⟨gh, 0, none⟩) (M + 1) ch) ∧ w'.cell? ⟨gh, E1.toNat, none⟩ = some (.slice (some ⟨rh, 0, none⟩) (K + 1) (K + 1)) ∧ w'.cell? ⟨rh, F1.toNat, none⟩ = some (.int .i64 v1)) (ds := []) #[false, false, false, false, false, false, false, false, false, false, false, false, false, false, false, false, false, false, false] (by kernel_rfl) rfl rfl ⟨c0, c4, ch1, ch2⟩ (fun hHeld => ?_)
  refine pure_ (i := 0) (N := some 13) (v := ?_) (a' := ?_) #[true, false, false, false, false, false, false, false, false, false, false, false, false, false, false, false, false, false, false] rfl rfl (by kernel_rfl) (fun _ _ _ h => h) (Or.inl ⟨by rfl, ?_⟩) ?_ ?_
  rotate_left
  · intro w'
    go_simp
    with_reducible rfl
  rotate_left
  · simp only [Act.put, List.setIfInBounds_toArray, List.set_cons_zero, List.set_cons_succ, i64_w, i32_w]
    rfl
  refine pure_ (i := 1) (N := some 14) (v := ?_) (a' := ?_) #[true, true, false, false, false, false, false, false, false, false, false, false, false, false, false, false, false, false, false] rfl rfl (by kernel_rfl) (fun _ _ _ h => h) (Or.inl ⟨by rfl, ?_⟩) ?_ ?_
  rotate_left
  · intro w'
    go_simp
    with_reducible rfl
  rotate_left
  · simp only [Act.put, List.setIfInBounds_toArray, List.set_cons_zero, List.set_cons_succ, i64_w, i32_w]
    rfl
  refine pure_ (i := 2) (N := some 15) (v := ?_) (a' := ?_) #[true, true, true, false, false, false, false, false, false, false, false, false, false, false, false, false, false, false, false] rfl rfl (by kernel_rfl) (fun _ _ _ h => h) (Or.inl ⟨by rfl, ?_⟩) ?_ ?_
  rotate_left
  · intro w'
    go_simp
    with_reducible rfl
  rotate_left
  · simp only [Act.put, List.setIfInBounds_toArray, List.set_cons_zero, List.set_cons_succ, i64_w, i32_w]
    rfl
  refine pure_ (i := 3) (N := some 16) (v := ?_) (a' := ?_) #[true, true, true, true, false, false, false, false, false, false, false, false, false, false, false, false, false, false, false] rfl rfl (by kernel_rfl) (fun _ _ _ h => h) (Or.inl ⟨by rfl, ?_⟩) ?_ ?_
  rotate_left
  · intro w'
    go_simp
    with_reducible rfl
  rotate_left
  · simp only [Act.put, List.setIfInBounds_toArray, List.set_cons_zero, List.set_cons_succ, i64_w, i32_w]
    rfl
  refine pure_ (i := 5) (N := some 18) (v := ?_) (a' := ?_) #[true, true, true, true, false, true, false, false, false, false, false, false, false, false, false, false, false, false, false] rfl rfl (by kernel_rfl) (fun _ _ _ h => h) (Or.inl ⟨by rfl, ?_⟩) ?_ ?_
  rotate_left
  · intro w'
    go_simp
    with_reducible rfl
  rotate_left
  · simp only [Act.put, List.setIfInBounds_toArray, List.set_cons_zero, List.set_cons_succ, i64_w, i32_w]
    rfl
  refine pure_ (i := 6) (N := some 19) (v := ?_) (a' := ?_) #[true, true, true, true, false, true, true, false, false, false, false, false, false, false, false, false, false, false, false] rfl rfl (by kernel_rfl) (fun _ _ _ h => h) (Or.inl ⟨by rfl, ?_⟩) ?_ ?_
  rotate_left
  · intro w'
    go_simp
    with_reducible rfl
  rotate_left
  · simp only [Act.put, List.setIfInBounds_toArray, List.set_cons_zero, List.set_cons_succ, i64_w, i32_w]
    rfl
  refine pure_ (i := 7) (N := some 20) (v := ?_) (a' := ?_) #[true, true, true, true, false, true, true, true, false, false, false, false, false, false, false, false, false, false, false] rfl rfl (by kernel_rfl) (fun _ _ _ h => h) (Or.inl ⟨by rfl, ?_⟩) ?_ ?_
  rotate_left
  · intro w'
    go_simp
    with_reducible rfl
  rotate_left
  · simp only [Act.put, List.setIfInBounds_toArray, List.set_cons_zero, List.set_cons_succ, i64_w, i32_w]
    rfl
  refine pure_ (i := 9) (N := some 22) (v := ?_) (a' := ?_) #[true, true, true, true, false, true, true, true, false, true, false, false, false, false, false, false, false, false, false] rfl rfl (by kernel_rfl) (fun _ _ _ h => h) (Or.inl ⟨by rfl, ?_⟩) ?_ ?_
  rotate_left
  · intro w'
    go_simp
    with_reducible rfl
  rotate_left
  · simp only [Act.put, List.setIfInBounds_toArray, List.set_cons_zero, List.set_cons_succ, i64_w, i32_w]
    rfl
  refine pure_ (i := 10) (N := some 23) (v := ?_) (a' := ?_) #[true, true, true, true, false, true, true, true, false, true, true, false, false, false, false, false, false, false, false] rfl rfl (by kernel_rfl) (fun _ _ _ h => h) (Or.inl ⟨by rfl, ?_⟩) ?_ ?_
  rotate_left
  · intro w'
    go_simp
    with_reducible rfl
  rotate_left
  · simp only [Act.put, List.setIfInBounds_toArray, List.set_cons_zero, List.set_cons_succ, i64_w, i32_w]
    rfl
  refine pure_ (i := 13) (N := some 26) (v := ?_) (a' := ?_) #[true, true, true, true, false, true, true, true, false, true, true, false, false, true, false, false, false, false, false] rfl rfl (by kernel_rfl) (fun _ _ _ h => h) (Or.inl ⟨by rfl, ?_⟩) ?_ ?_
  rotate_left
  · intro w'
    go_simp
    with_reducible rfl
  rotate_left
  · simp only [Act.put, List.setIfInBounds_toArray, List.set_cons_zero, List.set_cons_succ, i64_w, i32_w]
    rfl
  refine pure_ (i := 14) (N := some 27) (v := ?_) (a' := ?_) #[true, true, true, true, false, true, true, true, false, true, true, false, false, true, true, false, false, false, false] rfl rfl (by kernel_rfl) (fun _ _ _ h => h) (Or.inl ⟨by rfl, ?_⟩) ?_ ?_
  rotate_left
  · intro w'
    go_simp
    with_reducible rfl
  rotate_left
  · simp only [Act.put, List.setIfInBounds_toArray, List.set_cons_zero, List.set_cons_succ, i64_w, i32_w]
    rfl
  refine take_ (i := 4) (N := some 17) (v := ?_) (a' := ?_) #[true, true, true, true, true, true, true, true, false, true, true, false, false, true, true, false, false, false, false] rfl rfl (by kernel_rfl) (fun _ _ _ h => h) (Or.inl ⟨by rfl, ?_⟩) hHeld ?_ ?_
  rotate_left
  · rintro w' ⟨s0, s1, s2, s3⟩
    go_simp
    with_reducible rfl
  rotate_left
  · simp only [Act.put, List.setIfInBounds_toArray, List.set_cons_zero, List.set_cons_succ, i64_w, i32_w]
    rfl
  refine take_ (i := 8) (N := some 21) (v := ?_) (a' := ?_) #[true, true, true, true, true, true, true, true, true, true, true, false, false, true, true, false, false, false, false] rfl rfl (by kernel_rfl) (fun _ _ _ h => h) (Or.inl ⟨by rfl, ?_⟩) hHeld ?_ ?_
  rotate_left
  · rintro w' ⟨s0, s1, s2, s3⟩
    go_simp
    with_reducible rfl
  rotate_left
  · simp only [Act.put, List.setIfInBounds_toArray, List.set_cons_zero, List.set_cons_succ, i64_w, i32_w]
    rfl
  refine pure_ (i := 11) (N := some 24) (v := ?_) (a' := ?_) #[true, true, true, true, true, true, true, true, true, true, true, true, false, true, true, false, false, false, false] rfl rfl (by kernel_rfl) (fun _ _ _ h => h) (Or.inl ⟨by rfl, ?_⟩) ?_ ?_
  rotate_left
  · intro w'
    go_simp
    with_reducible rfl
  rotate_left
  · simp only [Act.put, List.setIfInBounds_toArray, List.set_cons_zero, List.set_cons_succ, i64_w, i32_w]
    rfl
  refine take_ (i := 12) (N := some 25) (v := ?_) (a' := ?_) #[true, true, true, true, true, true, true, true, true, true, true, true, true, true, true, false, false, false, false] rfl rfl (by kernel_rfl) (fun _ _ _ h => h) (Or.inl ⟨by rfl, ?_⟩) hHeld ?_ ?_
  rotate_left
  · rintro w' ⟨s0, s1, s2, s3⟩
    go_simp
    with_reducible rfl
  rotate_left
  · simp only [Act.put, List.setIfInBounds_toArray, List.set_cons_zero, List.set_cons_succ, i64_w, i32_w]
    rfl
  refine pure_ (i := 15) (N := some 28) (v := ?_) (a' := ?_) #[true, true, true, true, true, true, true, true, true, true, true, true, true, true, true, true, false, false, false] rfl rfl (by kernel_rfl) (fun _ _ _ h => h) (Or.inl ⟨by rfl, ?_⟩) ?_ ?_
  rotate_left
  · intro w'
    go_simp
    with_reducible rfl
  rotate_left
  · simp only [Act.put, List.setIfInBounds_toArray, List.set_cons_zero, List.set_cons_succ, i64_w, i32_w]
    rfl
  refine take_ (i := 16) (N := some 29) (v := ?_) (a' := ?_) #[true, true, true, true, true, true, true, true, true, true, true, true, true, true, true, true, true, false, false] rfl rfl (by kernel_rfl) (fun _ _ _ h => h) (Or.inl ⟨by rfl, ?_⟩) hHeld ?_ ?_
  rotate_left
  · rintro w' ⟨s0, s1, s2, s3⟩
    go_simp
    with_reducible rfl
  rotate_left
  · simp only [Act.put, List.setIfInBounds_toArray, List.set_cons_zero, List.set_cons_succ, i64_w, i32_w]
    rfl
  refine pure_ (i := 17) (N := some 30) (v := ?_) (a' := ?_) #[true, true, true, true, true, true, true, true, true, true, true, true, true, true, true, true, true, true, false] rfl rfl (by kernel_rfl) (fun _ _ _ h => h) (Or.inl ⟨by rfl, ?_⟩) ?_ ?_
  rotate_left
  · intro w'
    go_simp
    with_reducible rfl
  rotate_left
  · simp only [Act.put, List.setIfInBounds_toArray, List.set_cons_zero, List.set_cons_succ, i64_w, i32_w]
    rfl
  refine pure_ (i := 18) (N := some 11) (v := ?_) (a' := ?_) #[true, true, true, true, true, true, true, true, true, true, true, true, true, true, true, true, true, true, true] rfl rfl (by kernel_rfl) (fun _ _ _ h => h) (Or.inl ⟨by rfl, ?_⟩) ?_ ?_
  rotate_left
  · intro w'
    go_simp
    with_reducible rfl
  rotate_left
  · simp only [Act.put, List.setIfInBounds_toArray, List.set_cons_zero, List.set_cons_succ, i64_w, i32_w]
    rfl
  refine done_ (by kernel_rfl) ?_
  replace c3 : w.drew.cell? _ = _ := c3
  replace cl1 : w.drew.cell? _ = _ := cl1
  replace cl2 : w.drew.cell? _ = _ := cl2
  replace d1 : w.drew.cell? _ = _ := d1
  replace d2 : w.drew.cell? _ = _ := d2
  go_upto_region 3 with fail
  refine start_ (n := 21) (S := fun w' => w'.cell? ⟨g, 1, none⟩ = some (.int .i64 p.t) ∧ w'.cell? ⟨g, 2, none⟩ = some (.int .i64 p.c)) (ds := []) #[false, false, false, false, false, false, false, false, false, false, false, false, false, false, false, false, false, false, false, false, false] (by kernel_rfl) rfl rfl ⟨d1, d2⟩ (fun hHeld => ?_)
  refine pure_ (i := 0) (N := some 43) (v := ?_) (a' := ?_) #[true, false, false, false, false, false, false, false, false, false, false, false, false, false, false, false, false, false, false, false, false] rfl rfl (by kernel_rfl) (fun _ _ _ h => h) (Or.inl ⟨by rfl, ?_⟩) ?_ ?_
  rotate_left
  · intro w'
    go_simp
    with_reducible rfl
  rotate_left
  · simp only [Act.put, List.setIfInBounds_toArray, List.set_cons_zero, List.set_cons_succ, i64_w, i32_w]
    rfl
  refine pure_ (i := 1) (N := some 44) (v := ?_) (a' := ?_) #[true, true, false, false, false, false, false, false, false, false, false, false, false, false, false, false, false, false, false, false, false] rfl rfl (by kernel_rfl) (fun _ _ _ h => h) (Or.inl ⟨by rfl, ?_⟩) ?_ ?_
  rotate_left
  · intro w'
    go_simp
    with_reducible rfl
  rotate_left
  · simp only [Act.put, List.setIfInBounds_toArray, List.set_cons_zero, List.set_cons_succ, i64_w, i32_w]
    rfl
  refine pure_ (i := 2) (N := some 45) (v := ?_) (a' := ?_) #[true, true, true, false, false, false, false, false, false, false, false, false, false, false, false, false, false, false, false, false, false] rfl rfl (by kernel_rfl) (fun _ _ _ h => h) (Or.inl ⟨by rfl, ?_⟩) ?_ ?_
  rotate_left
  · intro w'
    go_simp
    with_reducible rfl
  rotate_left
  · simp only [Act.put, List.setIfInBounds_toArray, List.set_cons_zero, List.set_cons_succ, i64_w, i32_w]
    rfl
  refine pure_ (i := 3) (N := some 46) (v := ?_) (a' := ?_) #[true, true, true, true, false, false, false, false, false, false, false, false, false, false, false, false, false, false, false, false, false] rfl rfl (by kernel_rfl) (fun _ _ _ h => h) (Or.inl ⟨by rfl, ?_⟩) ?_ ?_
  rotate_left
  · intro w'
    go_simp
    with_reducible rfl
  rotate_left
  · simp only [Act.put, List.setIfInBounds_toArray, List.set_cons_zero, List.set_cons_succ, i64_w, i32_w]
    rfl
  refine pure_ (i := 5) (N := some 48) (v := ?_) (a' := ?_) #[true, true, true, true, false, true, false, false, false, false, false, false, false, false, false, false, false, false, false, false, false] rfl rfl (by kernel_rfl) (fun _ _ _ h => h) (Or.inl ⟨by rfl, ?_⟩) ?_ ?_
  rotate_left
  · intro w'
    go_simp
    with_reducible rfl
  rotate_left
  · simp only [Act.put, List.setIfInBounds_toArray, List.set_cons_zero, List.set_cons_succ, i64_w, i32_w]
    rfl
  refine pure_ (i := 6) (N := some 49) (v := ?_) (a' := ?_) #[true, true, true, true, false, true, true, false, false, false, false, false, false, false, false, false, false, false, false, false, false] rfl rfl (by kernel_rfl) (fun _ _ _ h => h) (Or.inl ⟨by rfl, ?_⟩) ?_ ?_
  rotate_left
  · intro w'
    go_simp
    with_reducible rfl
  rotate_left
  · simp only [Act.put, List.setIfInBounds_toArray, List.set_cons_zero, List.set_cons_succ, i64_w, i32_w]
    rfl
  refine pure_ (i := 7) (N := some 50) (v := ?_) (a' := ?_) #[true, true, true, true, false, true, true, true, false, false, false, false, false, false, false, false, false, false, false, false, false] rfl rfl (by kernel_rfl) (fun _ _ _ h => h) (Or.inl ⟨by rfl, ?_⟩) ?_ ?_
  rotate_left
  · intro w'
    go_simp
    with_reducible rfl
  rotate_left
  · simp only [Act.put, List.setIfInBounds_toArray, List.set_cons_zero, List.set_cons_succ, i64_w, i32_w]
    rfl
  refine pure_ (i := 8) (N := some 51) (v := ?_) (a' := ?_) #[true, true, true, true, false, true, true, true, true, false, false, false, false, false, false, false, false, false, false, false, false] rfl rfl (by kernel_rfl) (fun _ _ _ h => h) (Or.inl ⟨by rfl, ?_⟩) ?_ ?_
  rotate_left
  · intro w'
    go_simp
    with_reducible rfl
  rotate_left
  · simp only [Act.put, List.setIfInBounds_toArray, List.set_cons_zero, List.set_cons_succ, i64_w, i32_w]
    rfl
  refine pure_ (i := 10) (N := some 53) (v := ?_) (a' := ?_) #[true, true, true, true, false, true, true, true, true, false, true, false, false, false, false, false, false, false, false, false, false] rfl rfl (by kernel_rfl) (fun _ _ _ h => h) (Or.inl ⟨by rfl, ?_⟩) ?_ ?_
  rotate_left
  · intro w'
    go_simp
    with_reducible rfl
  rotate_left
  · simp only [Act.put, List.setIfInBounds_toArray, List.set_cons_zero, List.set_cons_succ, i64_w, i32_w]
    rfl
  refine pure_ (i := 11) (N := some 54) (v := ?_) (a' := ?_) #[true, true, true, true, false, true, true, true, true, false, true, true, false, false, false, false, false, false, false, false, false] rfl rfl (by kernel_rfl) (fun _ _ _ h => h) (Or.inl ⟨by rfl, ?_⟩) ?_ ?_
  rotate_left
  · intro w'
    go_simp
    with_reducible rfl
  rotate_left
  · simp only [Act.put, List.setIfInBounds_toArray, List.set_cons_zero, List.set_cons_succ, i64_w, i32_w]
    rfl
  refine pure_ (i := 12) (N := some 55) (v := ?_) (a' := ?_) #[true, true, true, true, false, true, true, true, true, false, true, true, true, false, false, false, false, false, false, false, false] rfl rfl (by kernel_rfl) (fun _ _ _ h => h) (Or.inl ⟨by rfl, ?_⟩) ?_ ?_
  rotate_left
  · intro w'
    go_simp
    with_reducible rfl
  rotate_left
  · simp only [Act.put, List.setIfInBounds_toArray, List.set_cons_zero, List.set_cons_succ, i64_w, i32_w]
    rfl
  refine pure_ (i := 16) (N := some 59) (v := ?_) (a' := ?_) #[true, true, true, true, false, true, true, true, true, false, true, true, true, false, false, false, true, false, false, false, false] rfl rfl (by kernel_rfl) (fun _ _ _ h => h) (Or.inl ⟨by rfl, ?_⟩) ?_ ?_
  rotate_left
  · intro w'
    go_simp
    with_reducible rfl
  rotate_left
  · simp only [Act.put, List.setIfInBounds_toArray, List.set_cons_zero, List.set_cons_succ, i64_w, i32_w]
    rfl
  refine pure_ (i := 17) (N := some 60) (v := ?_) (a' := ?_) #[true, true, true, true, false, true, true, true, true, false, true, true, true, false, false, false, true, true, false, false, false] rfl rfl (by kernel_rfl) (fun _ _ _ h => h) (Or.inl ⟨by rfl, ?_⟩) ?_ ?_
  rotate_left
  · intro w'
    go_simp
    with_reducible rfl
  rotate_left
  · simp only [Act.put, List.setIfInBounds_toArray, List.set_cons_zero, List.set_cons_succ, i64_w, i32_w]
    rfl
  refine take_ (i := 4) (N := some 47) (v := ?_) (a' := ?_) #[true, true, true, true, true, true, true, true, true, false, true, true, true, false, false, false, true, true, false, false, false] rfl rfl (by kernel_rfl) (fun _ _ _ h => h) (Or.inl ⟨by rfl, ?_⟩) hHeld ?_ ?_
  rotate_left
  · rintro w' ⟨s0, s1⟩
    go_simp
    with_reducible rfl
  rotate_left
  · simp only [Act.put, List.setIfInBounds_toArray, List.set_cons_zero, List.set_cons_succ, i64_w, i32_w]
    rfl
  refine take_ (i := 9) (N := some 52) (v := ?_) (a' := ?_) #[true, true, true, true, true, true, true, true, true, true, true, true, true, false, false, false, true, true, false, false, false] rfl rfl (by kernel_rfl) (fun _ _ _ h => h) (Or.inl ⟨by rfl, ?_⟩) hHeld ?_ ?_
  rotate_left
  · rintro w' ⟨s0, s1⟩
    go_simp
    with_reducible rfl
  rotate_left
  · simp only [Act.put, List.setIfInBounds_toArray, List.set_cons_zero, List.set_cons_succ, i64_w, i32_w]
    rfl
  refine one_ (i := 13) (N := some 56) #[true, true, true, true, true, true, true, true, true, true, true, true, true, true, false, false, true, true, false, false, false] rfl rfl (by kernel_rfl) (by decide) (fun K hK => ?_)
  refine goes_ Try.func146 (by kernel_rfl) rfl #[.int .i64 x] (by rfl) rfl rfl (by simp only [List.map_toArray, List.map_cons, List.map_nil]; rfl) ?_
  with_reducible refine (spec_l1Abs.calls x y _ HA.out).mono ?_
  rintro e_ w_1 ⟨rfl, hd_⟩
  refine ⟨_, rfl, ?_⟩
  have HD := Aside0.mk (Hx.undrew hd_.below)
  clear hd_
  refine hK.out _ _ ⟨pw_cell_below HD.out d1, pw_cell_below HD.out d2⟩ (fun hHeld => ?_)
  clear hK K
  refine norm_ (a' := ?_) ?_ ?_
  rotate_left
  · show Act.put _ (some 56) _ = _
    simp only [Act.put, List.setIfInBounds_toArray, List.set_cons_zero, List.set_cons_succ, i64_w, i32_w]
    rfl
  refine pure_ (i := 14) (N := some 57) (v := ?_) (a' := ?_) #[true, true, true, true, true, true, true, true, true, true, true, true, true, true, true, false, true, true, false, false, false] rfl rfl (by kernel_rfl) (fun _ _ _ h => h) (Or.inl ⟨by rfl, ?_⟩) ?_ ?_
  rotate_left
  · intro w'
    go_simp
    with_reducible rfl
  rotate_left
  · simp only [Act.put, List.setIfInBounds_toArray, List.set_cons_zero, List.set_cons_succ, i64_w, i32_w]
    rfl
  refine pure_ (i := 15) (N := some 58) (v := ?_) (a' := ?_) #[true, true, true, true, true, true, true, true, true, true, true, true, true, true, true, true, true, true, false, false, false] rfl rfl (by kernel_rfl) (fun _ _ _ h => h) (Or.inl ⟨by rfl, ?_⟩) ?_ ?_
  rotate_left
  · intro w'
    go_simp
    with_reducible rfl
  rotate_left
  · simp only [Act.put, List.setIfInBounds_toArray, List.set_cons_zero, List.set_cons_succ, i64_w, i32_w]
    rfl
  refine one_ (i := 18) (N := some 61) #[true, true, true, true, true, true, true, true, true, true, true, true, true, true, true, true, true, true, true, false, false] rfl rfl (by kernel_rfl) (by decide) (fun K hK => ?_)
  refine goes_ Try.func133 (by kernel_rfl) rfl #[.int .i64 (p.e + v1), .int .i64 v0] (by rfl) rfl rfl (by simp only [List.map_toArray, List.map_cons, List.map_nil]; rfl) ?_
  with_reducible refine (spec_l1Most.calls _ _ _ _ (cmost_is _ _)).mono ?_
  rintro e_ w_2 ⟨rfl, hd_⟩
  refine ⟨_, rfl, ?_⟩
  have HD2 := Aside0.mk hd_.below
  clear hd_
  refine hK.out _ _ ⟨pw_cell_below HD2.out (pw_cell_below HD.out d1), pw_cell_below HD2.out (pw_cell_below HD.out d2)⟩ (fun hHeld => ?_)
  clear hK K
  refine norm_ (a' := ?_) ?_ ?_
  rotate_left
  · show Act.put _ (some 61) _ = _
    simp only [Act.put, List.setIfInBounds_toArray, List.set_cons_zero, List.set_cons_succ, i64_w, i32_w]
    rfl
  refine pure_ (i := 19) (N := some 62) (v := ?_) (a' := ?_) #[true, true, true, true, true, true, true, true, true, true, true, true, true, true, true, true, true, true, true, true, false] rfl rfl (by kernel_rfl) (fun _ _ _ h => h) (Or.inl ⟨by rfl, ?_⟩) ?_ ?_
  rotate_left
  · intro w'
    go_simp
    with_reducible rfl
  rotate_left
  · simp only [Act.put, List.setIfInBounds_toArray, List.set_cons_zero, List.set_cons_succ, i64_w, i32_w]
    rfl
  refine pure_ (i := 20) (N := some 10) (v := ?_) (a' := ?_) #[true, true, true, true, true, true, true, true, true, true, true, true, true, true, true, true, true, true, true, true, true] rfl rfl (by kernel_rfl) (fun _ _ _ h => h) (Or.inl ⟨by rfl, ?_⟩) ?_ ?_
  rotate_left
  · intro w'
    go_simp
    with_reducible rfl
  rotate_left
  · simp only [Act.put, List.setIfInBounds_toArray, List.set_cons_zero, List.set_cons_succ, i64_w, i32_w]
    rfl
  refine done_ (by kernel_rfl) ?_
  go_wp2
  go_ret
  exact ⟨rfl, Hx.bb_below HD2.out (Hx.undrew HD.out)⟩


-- FOR (*spec.csTable).least
-- CALLS (*spec.csTable).by ; spec.csCan

theorem csCan_is (e f0 : Nat) : spec_csCan.f (e : Int) (f0 : Int) = some (decide (2 ≤ e ∨ f0 = 0)) := by
  unfold spec_csCan.f
  by_cases h : 2 ≤ e
  · rw [if_pos (by omega), decide_eq_true (.inl h)]
  · rw [if_neg (by omega)]
    by_cases h2 : f0 = 0
    · subst h2; simp
    · rw [decide_eq_false (by omega)]
      simp [h2]
def bestTo (p : CP) (e n s f : Nat) : Int := if f = 0 then -1 else mnF (cFst p e n s) f
set_option maxHeartbeats 8000000 in
set_option maxRecDepth 100000 in
theorem csleast.calls (w : World) (g : Nat) (p : CP) (t : TS) (V : Bool → Nat → Nat → Int) (e n s : Nat) (hb : Bx w g p t) (hR : Rows w t V) (hp : p.Ok) (hd : 1 ≤ e ∧ e ≤ t.E ∧ t.E ≤ 10 ∧ 1 ≤ n ∧ n ≤ t.N ∧ t.N ≤ 60 ∧ s ≤ 1)
    (hL : ∀ m, m < n → V false e m = cst p e m 0) (hH : ∀ m, m < n → (2 ≤ e ∨ m = 0) → V true (e - 1) m = cst p (e - 1) m 1) :
    Calls Try.prog 109 #[.pointer (some ⟨g, 0, none⟩), .int .i64 (e : Int), .int .i64 (n : Int), .int .i64 (if s = 1 then (n : Int) + 1 else 0)] w fun e_ w' => e_ = .returned (.int .i64 (cst p e n s)) ∧ Below w.heap.size w w' := by
  have FB : Aside0 (∀ f, 1 ≤ f → f ≤ n → (2 ≤ e ∨ f = 1) → ∀ W, Below w.heap.size w W → Calls Try.prog 144 #[.pointer (some ⟨g, 0, none⟩), .int .i64 (e : Int), .int .i64 (n : Int), .int .i64 (if s = 1 then (n : Int) + 1 else 0), .int .i64 (f : Int)] W fun e_ w' => e_ = .returned (.int .i64 (cFst p e n s f)) ∧ Below W.heap.size W w') := ⟨fun f h1 h2 h3 W hW => csby.calls W g p t V e n s f (hb.below hW) (hR.below hW) hp (by omega) (hL _ (by omega)) (hH _ (by omega) (by omega))⟩
  have HE : Aside0 (1 ≤ e ∧ e ≤ 10 ∧ 1 ≤ n ∧ n ≤ 60 ∧ s ≤ 1) := ⟨by omega⟩
  have HP := Aside0.mk hp
  obtain ⟨frm, hfr⟩ : ∃ frm : Int, frm = (if s = 1 then (n : Int) + 1 else 0) := ⟨_, rfl⟩
  rw [← hfr] at FB ⊢
  clear hb hR hp hd hL hH hfr
  go_enter Try.func109, Try.ntmps109
  go_wp2
  go_loopg [9, 10] n (fun k v9 v10 w' => ∃ f : Nat, v10 = .int .i64 ((f : Int) + 1) ∧ v9 = .int .i64 (bestTo p e n s f) ∧ Aside0 (f + k = n) ∧ Aside0 (Below w.heap.size w w'))
  case atStart => exact ⟨0, rfl, rfl, ⟨by omega⟩, ⟨by repeat (first | exact Below.refl _ _ | refine below_alloc ?_ _)⟩⟩
  case round =>
    obtain ⟨f0, rfl, rfl, HK, HB⟩ := hrel
    by_cases hlf : f0 < n
    · obtain ⟨f, hf⟩ : ∃ f, f = f0 + 1 := ⟨_, rfl⟩
      have hf2 : (f0 : Int) + 1 = (f : Int) := by omega
      rw [hf2]
      have d4 : decide ((f : Int) ≤ (n : Int)) = true := decide_eq_true (by omega)
      have d6 : (f ≤ n) = True := eq_true (by omega)
      have wf0 : IntKind.i64.wrap ((f : Int) - 1) = (f0 : Int) := (Hw.wrap_w (by omega) (by have := HE.out; omega)).trans (by omega)
      have wf : IntKind.i64.wrap ((f : Int) + 1) = (f : Int) + 1 := Hw.wrap_w (by omega) (by have := HE.out; omega)
      obtain ⟨x, hx⟩ : ∃ x, x = cFst p e n s f := ⟨_, rfl⟩
      have hxb := cFst_bd HP.out (e := e) (s := s) (n := n) (f := f) (by omega) (by omega) (by have := HE.out; omega)
      obtain ⟨m, hm⟩ : ∃ m, m = bestTo p e n s f0 := ⟨_, rfl⟩
      have HCan := Aside0.mk (csCan_is e f0)
      have HF := Aside0.mk (And.intro hf hlf)
      rw [← hm]
      by_cases hc : 2 ≤ e ∨ f0 = 0
      · rw [decide_eq_true hc] at HCan
        have FC := Aside0.mk (FB.out f (by omega) (by omega) (by omega))
        rw [← hx] at FC
        by_cases h0 : f0 = 0
        · have hm0 : (m < 0) = True := eq_true (by rw [hm, h0]; unfold bestTo; rw [if_pos rfl]; decide)
          have hm1 : decide (m < 0) = true := decide_eq_true (by rw [hm, h0]; unfold bestTo; rw [if_pos rfl]; decide)
          have HN : Aside0 (x = bestTo p e n s f) := ⟨by
            have hf1 : f = 1 := by omega
            have h1 := cst_fin' HP.out (e := e) (by have := HE.out; omega) (n := n - 1) 0 (by have := HE.out; omega)
            have a := cWay_bd (s := s) (n := n) (f := 1) (by omega) (by omega)
            have b := cMul_bd HP.out (x := cWay s n 1) (by omega) (by have := HE.out; omega)
            have hpp := HP.out
            have h3 : x ≤ cNever := by
              rw [hx, hf1]
              unfold cFst
              rw [show 1 - 1 = 0 by omega, cst_zero]
              unfold CP.Ok at hpp
              unfold cNever
              omega
            unfold bestTo
            rw [hf1] at hx
            rw [if_neg (by omega), hf1]
            show x = min cNever (cFst p e n s 1)
            rw [← hx]
            omega⟩
          have HX := Aside0.mk (And.intro hx (And.intro hm h0))
          clear hlf hf hf2 hx hxb hm hc h0
          go_wp2_with (first | ((with_reducible refine gate_callee (f := 143) rfl ?_); refine goesL_ (some 20) rfl rfl Try.func143 (by kernel_rfl) rfl #[.int .i64 (e : Int), .int .i64 (f0 : Int)] rfl (by (try simp only [List.map_toArray, List.map_cons, List.map_nil]); first | done | rfl) ?_; refine (spec_csCan.calls _ _ true _ HCan.out).mono ?_; rintro e_ w_1 ⟨rfl, hd_⟩; refine ⟨_, rfl, ?_⟩; have hb_ := hd_.below; clear hd_; have hB_ := Hx.bb_below hb_ HB.out; clear HB; have HB := Aside0.mk hB_; clear hB_ hb_) | ((with_reducible refine gate_callee (f := 144) rfl ?_); refine goesL_ (some 26) rfl rfl Try.func144 (by kernel_rfl) rfl #[.pointer (some ⟨g, 0, none⟩), .int .i64 (e : Int), .int .i64 (n : Int), .int .i64 frm, .int .i64 (f : Int)] rfl (by (try simp only [List.map_toArray, List.map_cons, List.map_nil]); first | done | rfl) ?_; refine (FC.out _ HB.out).mono ?_; rintro e_ w_2 ⟨rfl, hb_⟩; refine ⟨_, rfl, ?_⟩; have hB_ := Hx.bb_below hb_ HB.out; clear HB; have HB := Aside0.mk hB_; clear hB_ hb_))
          go_roundg (n - f)
          case measure => have := HK.out; have := HF.out; omega
          case rel => exact ⟨f, rfl, by rw [HN.out], ⟨by have := HK.out; have := HF.out; omega⟩, HB⟩
        · have hmm : m = mnF (cFst p e n s) f0 := by rw [hm]; unfold bestTo; rw [if_neg h0]
          have hm2 : 0 ≤ m := by rw [hmm]; exact mnF_lo (fun q a b => (cFst_bd HP.out a (Nat.le_trans b (Nat.le_of_lt hlf)) (by have := HE.out; omega)).1)
          have hm0 : (m < 0) = False := eq_false (by omega)
          have hm1 : decide (m < 0) = false := decide_eq_false (by omega)
          have hN : min m x = bestTo p e n s f := by
            unfold bestTo
            rw [if_neg (by omega), hf, mnF, ← hf, ← hx, hmm]
          by_cases hlx : x < m
          · have hl1 : (x < m) = True := eq_true hlx
            have hl2 : decide (x < m) = true := decide_eq_true hlx
            have HN : Aside0 (x = bestTo p e n s f) := ⟨by omega⟩
            have HX := Aside0.mk (And.intro hx (And.intro hm h0))
            clear hlf hf hf2 hx hxb hm hc h0 hmm hm2 hN hlx
            go_wp2_with (first | ((with_reducible refine gate_callee (f := 143) rfl ?_); refine goesL_ (some 20) rfl rfl Try.func143 (by kernel_rfl) rfl #[.int .i64 (e : Int), .int .i64 (f0 : Int)] rfl (by (try simp only [List.map_toArray, List.map_cons, List.map_nil]); first | done | rfl) ?_; refine (spec_csCan.calls _ _ true _ HCan.out).mono ?_; rintro e_ w_1 ⟨rfl, hd_⟩; refine ⟨_, rfl, ?_⟩; have hb_ := hd_.below; clear hd_; have hB_ := Hx.bb_below hb_ HB.out; clear HB; have HB := Aside0.mk hB_; clear hB_ hb_) | ((with_reducible refine gate_callee (f := 144) rfl ?_); refine goesL_ (some 26) rfl rfl Try.func144 (by kernel_rfl) rfl #[.pointer (some ⟨g, 0, none⟩), .int .i64 (e : Int), .int .i64 (n : Int), .int .i64 frm, .int .i64 (f : Int)] rfl (by (try simp only [List.map_toArray, List.map_cons, List.map_nil]); first | done | rfl) ?_; refine (FC.out _ HB.out).mono ?_; rintro e_ w_2 ⟨rfl, hb_⟩; refine ⟨_, rfl, ?_⟩; have hB_ := Hx.bb_below hb_ HB.out; clear HB; have HB := Aside0.mk hB_; clear hB_ hb_))
            go_roundg (n - f)
            case measure => have := HK.out; have := HF.out; omega
            case rel => exact ⟨f, rfl, by rw [HN.out], ⟨by have := HK.out; have := HF.out; omega⟩, HB⟩
          · have hl1 : (x < m) = False := eq_false hlx
            have hl2 : decide (x < m) = false := decide_eq_false hlx
            have HN : Aside0 (m = bestTo p e n s f) := ⟨by omega⟩
            have HX := Aside0.mk (And.intro hx (And.intro hm h0))
            clear hlf hf hf2 hx hxb hm hc h0 hmm hm2 hN hlx
            go_wp2_with (first | ((with_reducible refine gate_callee (f := 143) rfl ?_); refine goesL_ (some 20) rfl rfl Try.func143 (by kernel_rfl) rfl #[.int .i64 (e : Int), .int .i64 (f0 : Int)] rfl (by (try simp only [List.map_toArray, List.map_cons, List.map_nil]); first | done | rfl) ?_; refine (spec_csCan.calls _ _ true _ HCan.out).mono ?_; rintro e_ w_1 ⟨rfl, hd_⟩; refine ⟨_, rfl, ?_⟩; have hb_ := hd_.below; clear hd_; have hB_ := Hx.bb_below hb_ HB.out; clear HB; have HB := Aside0.mk hB_; clear hB_ hb_) | ((with_reducible refine gate_callee (f := 144) rfl ?_); refine goesL_ (some 26) rfl rfl Try.func144 (by kernel_rfl) rfl #[.pointer (some ⟨g, 0, none⟩), .int .i64 (e : Int), .int .i64 (n : Int), .int .i64 frm, .int .i64 (f : Int)] rfl (by (try simp only [List.map_toArray, List.map_cons, List.map_nil]); first | done | rfl) ?_; refine (FC.out _ HB.out).mono ?_; rintro e_ w_2 ⟨rfl, hb_⟩; refine ⟨_, rfl, ?_⟩; have hB_ := Hx.bb_below hb_ HB.out; clear HB; have HB := Aside0.mk hB_; clear hB_ hb_))
            go_roundg (n - f)
            case measure => have := HK.out; have := HF.out; omega
            case rel => exact ⟨f, rfl, by rw [HN.out], ⟨by have := HK.out; have := HF.out; omega⟩, HB⟩
      · rw [decide_eq_false hc] at HCan
        have HN : Aside0 (m = bestTo p e n s f) := ⟨by
          have he1 : e = 1 := by have := HE.out; omega
          rw [hm]
          unfold bestTo
          rw [if_neg (by omega), if_neg (by omega), hf]
          refine (mnF_skip ?_).symm
          rw [he1]
          exact cFst_no HP.out (by omega) (by omega) (by have := HE.out; omega)⟩
        have HX := Aside0.mk (And.intro hx hm)
        clear hlf hf hf2 hx hxb hm hc
        go_wp2_with (first | ((with_reducible refine gate_callee (f := 143) rfl ?_); refine goesL_ (some 20) rfl rfl Try.func143 (by kernel_rfl) rfl #[.int .i64 (e : Int), .int .i64 (f0 : Int)] rfl (by (try simp only [List.map_toArray, List.map_cons, List.map_nil]); first | done | rfl) ?_; refine (spec_csCan.calls _ _ false _ HCan.out).mono ?_; rintro e_ w_1 ⟨rfl, hd_⟩; refine ⟨_, rfl, ?_⟩; have hb_ := hd_.below; clear hd_; have hB_ := Hx.bb_below hb_ HB.out; clear HB; have HB := Aside0.mk hB_; clear hB_ hb_))
        go_roundg (n - f)
        case measure => have := HK.out; have := HF.out; omega
        case rel => exact ⟨f, rfl, by rw [HN.out], ⟨by have := HK.out; have := HF.out; omega⟩, HB⟩
    · have d4 : decide ((f0 : Int) + 1 ≤ (n : Int)) = false := decide_eq_false (by omega)
      have d6 : ((f0 : Int) + 1 ≤ (n : Int)) = False := eq_false (by omega)
      have HN : Aside0 (bestTo p e n s f0 = cst p e n s) := ⟨by
        have h1 := HE.out
        rw [show f0 = n by have := HK.out; omega, cst_eq p s (by omega) (by omega)]
        unfold bestTo
        rw [if_neg (by omega)]⟩
      rw [HN.out]
      clear hlf
      go_wp2
      go_ret
      exact ⟨rfl, HB.out⟩


end Go.Proofs.Ytoomacelbhojhaa.E
