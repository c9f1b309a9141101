/- Plain Lean functions with the answers of Go functions, and proofs of it: printed by a program of this session (pr.py) over the kit's print, with hand-written parts. -/
import Derived.Test.YtoomacelbhojhaaEx0
import Derived.Test.YtoomacelbhojhaaEx1
import Derived.Test.YtoomacelbhojhaaEx2
import Derived.Test.YtoomacelbhojhaaEx3
import Derived.Test.YtoomacelbhojhaaEx4
namespace Go.Proofs.Ytoomacelbhojhaa.E
open Go.RowKit Go.Proofs.YtoomacelbhojhaaW.PrintWords Go.Proofs.YtoomacelbhojhaaW.PrintLast Go.Proofs.YtoomacelbhojhaaW.PrintMore
attribute [local go_sem] max2_int min2_int max_two min_two max_three min_three max_four min_four   -- for this text's walks alone
set_option linter.unusedVariables false
set_option linter.unusedSimpArgs false

-- FOR spec.csMake
-- CALLS (*spec.csTable).least ; impl.newCoster ; spec.csAsked ; spec.csGood ; spec.l1All ; spec.flEggs ; spec.l1In
-- USES info int
-- USES info []int
def hdr (N r : Nat) : List Value := [.slice (some ⟨r, 0, none⟩) (N + 1) (N + 1)]
def Zrow (w : World) (N r : Nat) : Prop := ∃ arr, w.heap[r]? = some (.cells arr 3 (0, 0)) ∧ ∀ n, n ≤ N → arr[n]? = some (.int .i64 0)
structure Bld (w0s : Nat) (w : World) (g : Nat) (p : CP) (N : Nat) (vl vh : Value) (rl rh : List Nat) : Prop where
  box : w.heap[g]? = some (.cells #[.int .i64 p.e, .int .i64 p.t, .int .i64 p.c, vl, vh] 81 (0, 0))
  base : w0s ≤ g
  RL : Kd.R (Kd.raw 1) 46 w w0s (fun _ => True) vl (rl.map (hdr N))
  RH : Kd.R (Kd.raw 1) 46 w w0s (fun _ => True) vh (rh.map (hdr N))
  ap : ∀ k, vl.ownBlock = some k → vh.ownBlock = some k → False
  nd : (rl ++ rh).Nodup
  rows : ∀ r, r ∈ rl ++ rh → Zrow w N r
theorem Zrow.below {w w' : World} {N r : Nat} (h : Zrow w N r) (hb : Below w.heap.size w w') : Zrow w' N r := by
  obtain ⟨arr, a, b⟩ := h
  exact ⟨arr, Hx.b_below hb a, b⟩
theorem Bld.below {w0s : Nat} {w w' : World} {g : Nat} {p : CP} {N : Nat} {vl vh : Value} {rl rh : List Nat} (h : Bld w0s w g p N vl vh rl rh) (hb : Below w.heap.size w w') : Bld w0s w' g p N vl vh rl rh :=
  ⟨Hx.b_below hb h.box, h.base, Kd.R_below h.RL hb, Kd.R_below h.RH hb, h.ap, h.nd, fun r hr => (h.rows r hr).below hb⟩
theorem own_ne {w : World} {v : Value} {xs : List (List Value)} {base : Nat} {e t k : Nat} {cells : Array Value} (h : Kd.R (Kd.raw 1) e w base (fun _ => True) v xs) (hb : w.heap[k]? = some (.cells cells t (0, 0))) (ht : e ≠ t) : some k ≠ v.ownBlock := Kd.R_ne h hb ht
theorem Bld.appL {w0s : Nat} {w w3 : World} {g : Nat} {p : CP} {N r : Nat} {vl vh v1 : Value} {rl rh : List Nat} (h : Bld w0s w g p N vl vh rl rh) (hz : Zrow w N r) (hr : r ∉ rl ++ rh)
    (ho : Kd.R (Kd.raw 1) 46 w3 w0s (fun _ => True) v1 (rl.map (hdr N) ++ [hdr N r])) (hg : w.grownBy w3 vl.ownBlock) (hat : v1.ownBlock = vl.ownBlock ∨ ∃ b, v1.ownBlock = some b ∧ w.heap.size ≤ b) :
    Bld w0s (w3.setCell ⟨g, 3, none⟩ v1) g p N v1 vh (rl ++ [r]) rh := by
  have hbox : w3.heap[g]? = some (.cells #[.int .i64 p.e, .int .i64 p.t, .int .i64 p.c, vl, vh] 81 (0, 0)) := blk_grown h.box hg (own_ne h.RL h.box (by decide))
  have hrow : ∀ q, Zrow w N q → Zrow (w3.setCell ⟨g, 3, none⟩ v1) N q := by
    intro q ⟨arr, a, b⟩
    have a3 : w3.heap[q]? = some (.cells arr 3 (0, 0)) := blk_grown a hg (own_ne h.RL a (by decide))
    refine ⟨arr, blk_far a3 (fun hh => ?_) _, b⟩
    rw [hh, hbox] at a3
    cases a3
  refine ⟨blk_put hbox 3 _ rfl, h.base, (by rw [List.map_append]; exact Kd.R_set ho hbox (by intro q hq; simp [Kd.raw] at hq; omega) 3 _), Kd.R_set (Kd.R_grown2 h.RH rfl hg (fun k hk e_ => h.ap k hk e_.symm)) hbox (by intro q hq; simp [Kd.raw] at hq; omega) 3 _, ?_, ?_, ?_⟩
  · intro k hk1 hk2
    rcases hat with hat | ⟨b, hb1, hb2⟩
    · rw [hat] at hk1
      exact h.ap k hk1 hk2
    · rw [hb1] at hk1
      have := Kd.R_lt h.RH k hk2
      have := Option.some.inj hk1
      omega
  · rw [List.append_assoc]; exact (List.perm_middle (l₁ := rl) (a := r) (l₂ := rh)).nodup_iff.2 (List.nodup_cons.2 ⟨hr, h.nd⟩)
  · intro q hq
    rcases List.mem_append.1 hq with hq | hq
    · rcases List.mem_append.1 hq with hq | hq
      · exact hrow q (h.rows q (List.mem_append_left _ hq))
      · rw [List.mem_singleton.1 hq]; exact hrow r hz
    · exact hrow q (h.rows q (List.mem_append_right _ hq))
theorem Bld.appH {w0s : Nat} {w w3 : World} {g : Nat} {p : CP} {N r : Nat} {vl vh v1 : Value} {rl rh : List Nat} (h : Bld w0s w g p N vl vh rl rh) (hz : Zrow w N r) (hr : r ∉ rl ++ rh)
    (ho : Kd.R (Kd.raw 1) 46 w3 w0s (fun _ => True) v1 (rh.map (hdr N) ++ [hdr N r])) (hg : w.grownBy w3 vh.ownBlock) (hat : v1.ownBlock = vh.ownBlock ∨ ∃ b, v1.ownBlock = some b ∧ w.heap.size ≤ b) :
    Bld w0s (w3.setCell ⟨g, 4, none⟩ v1) g p N vl v1 rl (rh ++ [r]) := by
  have hbox : w3.heap[g]? = some (.cells #[.int .i64 p.e, .int .i64 p.t, .int .i64 p.c, vl, vh] 81 (0, 0)) := blk_grown h.box hg (own_ne h.RH h.box (by decide))
  have hrow : ∀ q, Zrow w N q → Zrow (w3.setCell ⟨g, 4, none⟩ v1) N q := by
    intro q ⟨arr, a, b⟩
    have a3 : w3.heap[q]? = some (.cells arr 3 (0, 0)) := blk_grown a hg (own_ne h.RH a (by decide))
    refine ⟨arr, blk_far a3 (fun hh => ?_) _, b⟩
    rw [hh, hbox] at a3
    cases a3
  refine ⟨blk_put hbox 4 _ rfl, h.base, Kd.R_set (Kd.R_grown2 h.RL rfl hg (fun k hk e_ => h.ap k e_.symm hk)) hbox (by intro q hq; simp [Kd.raw] at hq; omega) 4 _, (by rw [List.map_append]; exact Kd.R_set ho hbox (by intro q hq; simp [Kd.raw] at hq; omega) 4 _), ?_, ?_, ?_⟩
  · intro k hk1 hk2
    rcases hat with hat | ⟨b, hb1, hb2⟩
    · rw [hat] at hk2
      exact h.ap k hk1 hk2
    · rw [hb1] at hk2
      have := Kd.R_lt h.RL k hk1
      have := Option.some.inj hk2
      omega
  · rw [← List.append_assoc]; exact (List.perm_append_singleton r (rl ++ rh)).nodup_iff.2 (List.nodup_cons.2 ⟨hr, h.nd⟩)
  · intro q hq
    rcases List.mem_append.1 hq with hq | hq
    · exact hrow q (h.rows q (List.mem_append_left _ hq))
    · rcases List.mem_append.1 hq with hq | hq
      · exact hrow q (h.rows q (List.mem_append_right _ hq))
      · rw [List.mem_singleton.1 hq]; exact hrow r hz
theorem heads_of {w : World} {base N c gl : Nat} {l : List Nat} (h : Kd.R (Kd.raw 1) 46 w base (fun _ => True) (.slice (some ⟨gl, 0, none⟩) l.length c) (l.map (hdr N))) {cells : Array Value} (hc : w.heap[gl]? = some (.cells cells 46 (0, 0))) {e : Nat} (he : e < l.length) :
    cells[e]? = some (.slice (some ⟨l.getD e 0, 0, none⟩) (N + 1) (N + 1)) := by
  obtain ⟨cs, h1, h2, h3⟩ := Kd.R_get h [] (e : Int) (by omega) (by omega)
  have h4 : cs = hdr N (l.getD e 0) := by
    refine h2.1.trans ?_
    rw [Int.toNat_natCast, List.getD_eq_getElem?_getD, List.getElem?_map, List.getD_eq_getElem?_getD, List.getElem?_eq_getElem he]
    rfl
  have h5 := h3 0 (.slice (some ⟨l.getD e 0, 0, none⟩) (N + 1) (N + 1)) (by rw [h4]; rfl)
  rw [Hw.add_off, Int.toNat_natCast] at h5
  have h6 := blk_cell hc (e * 1 + 0)
  have h7 : e * (Kd.raw 1).sz + 0 = e * 1 + 0 := rfl
  rw [h7, h6] at h5
  rw [show e * 1 + 0 = e by omega] at h5
  exact h5
def tsOf (gl gh cl ch : Nat) (rl rh : List Nat) (E N : Nat) : TS := ⟨fun s => if s then gh else gl, fun s => if s then ch else cl, fun s e => if s then rh.getD e 0 else rl.getD e 0, E, N⟩
theorem nd_get {l : List Nat} (h : l.Nodup) {i j : Nat} (hi : i < l.length) (hj : j < l.length) (e : l.getD i 0 = l.getD j 0) : i = j := by
  rw [List.getD_eq_getElem?_getD, List.getD_eq_getElem?_getD, List.getElem?_eq_getElem hi, List.getElem?_eq_getElem hj] at e
  exact (List.getElem_inj h).1 e
theorem getD_mem {l : List Nat} {i : Nat} (hi : i < l.length) : l.getD i 0 ∈ l := by
  rw [List.getD_eq_getElem?_getD, List.getElem?_eq_getElem hi]
  exact List.getElem_mem hi
theorem Bld.done {w0s : Nat} {w : World} {g : Nat} {p : CP} {E N : Nat} {vl vh : Value} {rl rh : List Nat} (h : Bld w0s w g p N vl vh rl rh) (h1 : rl.length = E + 1) (h2 : rh.length = E + 1) :
    ∃ t : TS, t.E = E ∧ t.N = N ∧ Bx w g p t ∧ t.Apart ∧ Rows w t (fun _ _ _ => 0) ∧ ∀ s e, e ≤ E → t.rr s e ∈ rl ++ rh := by
  obtain ⟨gl, cl, e1, _, _, al, a1⟩ := Kd.R_form h.RL (by rw [List.length_map]; omega)
  obtain ⟨gh, ch, e2, _, _, ah, a2⟩ := Kd.R_form h.RH (by rw [List.length_map]; omega)
  have hRL := h.RL
  have hRH := h.RH
  have hbox := h.box
  rw [List.length_map] at e1 e2
  subst e1 e2
  have hnd := List.nodup_append.1 h.nd
  refine ⟨tsOf gl gh cl ch rl rh E N, rfl, rfl, ?_, ?_, ⟨?_, ?_⟩, ?_⟩
  · rw [h1, h2] at hbox
    exact hbox
  · intro s e s' e' he he' hh
    have he : e ≤ E := he
    have he' : e' ≤ E := he'
    cases s <;> cases s' <;> simp only [tsOf, if_true, if_false, Bool.false_eq_true] at hh
    · exact ⟨rfl, nd_get hnd.1 (by omega) (by omega) hh⟩
    · exact absurd hh (hnd.2.2 _ (getD_mem (by omega)) _ (getD_mem (by omega)))
    · exact absurd hh.symm (hnd.2.2 _ (getD_mem (by omega)) _ (getD_mem (by omega)))
    · exact ⟨rfl, nd_get hnd.2.1 (by omega) (by omega) hh⟩
  · intro s
    cases s
    · exact ⟨al, a1, fun e he => heads_of hRL a1 (by have he : e ≤ E := he; omega)⟩
    · exact ⟨ah, a2, fun e he => heads_of hRH a2 (by have he : e ≤ E := he; omega)⟩
  · intro s e he
    have he : e ≤ E := he
    cases s
    · exact h.rows _ (List.mem_append_left _ (getD_mem (by omega)))
    · exact h.rows _ (List.mem_append_right _ (getD_mem (by omega)))
  · intro s e he
    cases s
    · exact List.mem_append_left _ (getD_mem (by omega))
    · exact List.mem_append_right _ (getD_mem (by omega))
theorem Rows.far {w : World} {t : TS} {V : Bool → Nat → Nat → Int} (h : Rows w t V) {g : Nat} (hne : (∀ s, t.gg s ≠ g) ∧ ∀ s e, e ≤ t.E → t.rr s e ≠ g) (i : Nat) (v : Value) : Rows (w.setCell ⟨g, i, none⟩ v) t V := by
  refine ⟨fun s => ?_, fun s e he => ?_⟩
  · obtain ⟨arr, a, b⟩ := h.1 s
    exact ⟨arr, blk_far a (hne.1 s) _, b⟩
  · obtain ⟨arr, a, b⟩ := h.2 s e he
    exact ⟨arr, blk_far a (hne.2 s e he) _, b⟩
theorem Rows.apart {w : World} {t : TS} {V : Bool → Nat → Nat → Int} (h : Rows w t V) {g : Nat} {cells : Array Value} (hb : w.heap[g]? = some (.cells cells 81 (0, 0))) : (∀ s, t.gg s ≠ g) ∧ ∀ s e, e ≤ t.E → t.rr s e ≠ g := by
  refine ⟨fun s => ?_, fun s e he => ?_⟩
  · obtain ⟨arr, a, b⟩ := h.1 s
    exact blk_ne a hb (by decide)
  · obtain ⟨arr, a, b⟩ := h.2 s e he
    exact blk_ne a hb (by decide)

theorem mkRow (N : Nat) (hN : N ≤ 60) (w : World) : (Instr.makeSlice 46 (.int .i64 ((N : Int) + 1)) (.int .i64 ((N : Int) + 1))).run Try.prog w = .ok (.slice (some ⟨w.heap.size, 0, none⟩) (N + 1) (N + 1)) (w.alloc (.cells (madeCells #[.int .i64 0] (N + 1)) 3 (0, 0))) :=
  run_make_row' (P := Try.prog) 46 3 (.int .i64 0) 8 Try.underlying46 (by kernel_rfl) rfl .i64 .i64 (N + 1) (by omega) (by omega) w
theorem Zrow.made (w : World) (N : Nat) : Zrow (w.alloc (.cells (madeCells #[.int .i64 0] (N + 1)) 3 (0, 0))).drew N w.heap.size := by
  refine ⟨_, blk_new w _, fun n hn => ?_⟩
  rw [← Array.getElem?_toList, toList_madeCells_one, List.getElem?_replicate, if_pos (by omega)]
def Kn (p : CP) (E N : Nat) (V : Bool → Nat → Nat → Int) (e n : Nat) : Prop := ∀ e' m, e' ≤ E → m ≤ N → (m = 0 ∨ (1 ≤ e' ∧ (e' < e ∨ (e' = e ∧ m < n)))) → V false e' m = cst p e' m 0 ∧ V true e' m = cst p e' m 1
theorem Kn.zero (p : CP) (E N : Nat) : Kn p E N (fun _ _ _ => 0) 1 1 := by
  intro e' m _ _ h
  rw [show m = 0 by omega, cst_zero, cst_zero]
  exact ⟨rfl, rfl⟩
theorem Kn.next {p : CP} {E N : Nat} {V : Bool → Nat → Nat → Int} {e n : Nat} (h : Kn p E N V e n) (hn : N < n) : Kn p E N V (e + 1) 1 := by
  intro e' m h1 h2 h3
  exact h e' m h1 h2 (by omega)
theorem putV_ne {V : Bool → Nat → Nat → Int} {s s' : Bool} {e n e' n' : Nat} {v : Int} (h : s' ≠ s ∨ e' ≠ e ∨ n' ≠ n) : putV V s e n v s' e' n' = V s' e' n' := by
  unfold putV
  rw [if_neg]
  rintro ⟨rfl, rfl, rfl⟩
  simp at h
theorem putV_eq {V : Bool → Nat → Nat → Int} {s : Bool} {e n : Nat} {v : Int} : putV V s e n v s e n = v := by
  unfold putV
  rw [if_pos ⟨rfl, rfl, rfl⟩]
theorem Kn.put {p : CP} {E N : Nat} {V : Bool → Nat → Nat → Int} {e n : Nat} (h : Kn p E N V e n) : Kn p E N (putV (putV V false e n (cst p e n 0)) true e n (cst p e n 1)) e (n + 1) := by
  intro e' m h1 h2 h3
  by_cases hh : e' = e ∧ m = n
  · obtain ⟨rfl, rfl⟩ := hh
    exact ⟨(putV_ne (.inl (by decide))).trans putV_eq, putV_eq⟩
  · have ha : e' ≠ e ∨ m ≠ n := by omega
    have hk := h e' m h1 h2 (by omega)
    exact ⟨((putV_ne (.inl (by decide))).trans (putV_ne (.inr ha))).trans hk.1, ((putV_ne (.inr ha)).trans (putV_ne (.inl (by decide)))).trans hk.2⟩
theorem lo_app {b ga gb : Nat} {rl rh rl2 : List Nat} (h : ∀ r, r ∈ rl ++ rh → b ≤ r) (e : rl2 = rl ++ [ga]) (h1 : b ≤ ga) (h2 : b ≤ gb) : ∀ r, r ∈ rl2 ++ (rh ++ [gb]) → b ≤ r := by
  intro r hr
  rw [e] at hr
  simp only [List.mem_append, List.mem_singleton] at hr
  rcases hr with (hr | hr) | hr | hr
  · exact h r (List.mem_append_left _ hr)
  · omega
  · exact h r (List.mem_append_right _ hr)
  · omega
theorem Bld.start {w : World} {b g : Nat} {p : CP} (N : Nat) (h : w.heap[g]? = some (.cells #[.int .i64 p.e, .int .i64 p.t, .int .i64 p.c, .slice none 0 0, .slice none 0 0] 81 (0, 0))) (hb : b ≤ g) : Bld b w g p N (.slice none 0 0) (.slice none 0 0) [] [] :=
  ⟨h, hb, Kd.R_nil _ _ _ _ _, Kd.R_nil _ _ _ _ _, fun k h1 => by simp [Value.ownBlock] at h1, List.nodup_nil, fun r hr => by simp at hr⟩
set_option maxHeartbeats 16000000 in
set_option maxRecDepth 1000000 in
theorem csMake.calls (w : World) (p : CP) (E N : Nat) (hp : p.Ok) (hd : 1 ≤ E ∧ E ≤ 10 ∧ N ≤ 60) :
    Calls Try.prog 69 #[.agg #[.int .i64 p.e, .int .i64 p.t, .int .i64 p.c], .int .i64 (E : Int), .int .i64 (N : Int)] w fun e_ w' => ∃ (t : TS) (V : Bool → Nat → Nat → Int), e_ = .returned (.agg (tbCells p t)) ∧ t.E = E ∧ t.N = N ∧ Rows w' t V ∧ (∀ e m, e ≤ E → m ≤ N → (m = 0 ∨ 1 ≤ e) → V false e m = cst p e m 0 ∧ V true e m = cst p e m 1) ∧ Below w.heap.size w w' := by
  have hu41 := Try.underlying41
  have hu81 := Try.underlying81
  have HB := Aside0.mk (Below.refl w.heap.size w)
  have HP := Aside0.mk hp
  have HE := Aside0.mk hd
  clear hp hd
  go_enter Try.func69, Try.ntmps69
  go_wp2_with (first | ((with_reducible refine gate_dst (N := 3) rfl ?_); refine box_event ?hg (N := 3) ?hd (cs := #[.int .i64 p.e, .int .i64 p.t, .int .i64 p.c]) (t := 41) ?hr ?_; (case hd => rfl); (case hg => rfl); (case hr => first | (go_simp; done) | (go_simp; rfl)); intro gB3 hg_ w_gB3 BK_ hb_; have ORD_ : Aside0 ((True) ∧ (w.heap.size ≤ gB3)) := ⟨by refine ⟨trivial, ?_⟩; (have := HB.out.size); omega⟩; have ORD := ORD_; clear ORD_; have n0_ : Aside0 (Below w.heap.size w w_gB3) := ⟨Hx.bb_below hb_ (by first | exact HB.out | exact below_drew1 HB.out | exact pw_below_drewN HB.out _)⟩; have m0_ : Aside0 (w_gB3.heap[gB3]? = some (.cells #[.int .i64 p.e, .int .i64 p.t, .int .i64 p.c] 41 (0, 0))) := ⟨BK_⟩; (try clear HB); have HB := n0_; have B3 := m0_; clear n0_ m0_; have cB3_0 : w_gB3.cell? ⟨gB3, 0, none⟩ = some (.int .i64 p.e) := (blk_cell B3.out 0).trans rfl; have dB3_0 := blk_frozen B3.out 0; have cB3_1 : w_gB3.cell? ⟨gB3, 1, none⟩ = some (.int .i64 p.t) := (blk_cell B3.out 1).trans rfl; have dB3_1 := blk_frozen B3.out 1; have cB3_2 : w_gB3.cell? ⟨gB3, 2, none⟩ = some (.int .i64 p.c) := (blk_cell B3.out 2).trans rfl; have dB3_2 := blk_frozen B3.out 2; clear hg_ BK_ hb_) | ((with_reducible refine gate_dst (N := 6) rfl ?_); refine box_event ?hg (N := 6) ?hd (cs := #[.int .i64 0, .int .i64 0, .int .i64 0, .slice none 0 0, .slice none 0 0]) (t := 81) ?hr ?_; (case hd => rfl); (case hg => rfl); (case hr => first | (go_simp; done) | (go_simp; rfl)); intro gB6 hg_ w_gB6 BK_ hb_; have ORD_ : Aside0 (((True) ∧ (w.heap.size ≤ gB3)) ∧ (gB3 < gB6 ∧ w.heap.size ≤ gB6)) := ⟨by refine ⟨ORD.out, ?_⟩; (have := HB.out.size); (have := blk_lt B3.out); omega⟩; clear ORD; have ORD := ORD_; clear ORD_; have n0_ : Aside0 (Below w.heap.size w w_gB6) := ⟨Hx.bb_below hb_ (by first | exact HB.out | exact below_drew1 HB.out | exact pw_below_drewN HB.out _)⟩; have n1_ : Aside0 (w_gB6.heap[gB3]? = some (.cells #[.int .i64 p.e, .int .i64 p.t, .int .i64 p.c] 41 (0, 0))) := ⟨Hx.b_below hb_ B3.out⟩; have m0_ : Aside0 (w_gB6.heap[gB6]? = some (.cells #[.int .i64 0, .int .i64 0, .int .i64 0, .slice none 0 0, .slice none 0 0] 81 (0, 0))) := ⟨BK_⟩; (try clear cB3_0 dB3_0 cB3_1 dB3_1 cB3_2 dB3_2); (try clear HB); (try clear B3); have HB := n0_; have B3 := n1_; have B6 := m0_; clear n0_ n1_ m0_; have cB3_0 : w_gB6.cell? ⟨gB3, 0, none⟩ = some (.int .i64 p.e) := (blk_cell B3.out 0).trans rfl; have dB3_0 := blk_frozen B3.out 0; have cB3_1 : w_gB6.cell? ⟨gB3, 1, none⟩ = some (.int .i64 p.t) := (blk_cell B3.out 1).trans rfl; have dB3_1 := blk_frozen B3.out 1; have cB3_2 : w_gB6.cell? ⟨gB3, 2, none⟩ = some (.int .i64 p.c) := (blk_cell B3.out 2).trans rfl; have dB3_2 := blk_frozen B3.out 2; have cB6_0 : w_gB6.cell? ⟨gB6, 0, none⟩ = some (.int .i64 0) := (blk_cell B6.out 0).trans rfl; have dB6_0 := blk_frozen B6.out 0; have cB6_1 : w_gB6.cell? ⟨gB6, 1, none⟩ = some (.int .i64 0) := (blk_cell B6.out 1).trans rfl; have dB6_1 := blk_frozen B6.out 1; have cB6_2 : w_gB6.cell? ⟨gB6, 2, none⟩ = some (.int .i64 0) := (blk_cell B6.out 2).trans rfl; have dB6_2 := blk_frozen B6.out 2; have cB6_3 : w_gB6.cell? ⟨gB6, 3, none⟩ = some (.slice none 0 0) := (blk_cell B6.out 3).trans rfl; have dB6_3 := blk_frozen B6.out 3; have cB6_4 : w_gB6.cell? ⟨gB6, 4, none⟩ = some (.slice none 0 0) := (blk_cell B6.out 4).trans rfl; have dB6_4 := blk_frozen B6.out 4; clear hg_ BK_ hb_) | ((with_reducible refine gate_dst (N := 7) rfl ?_); refine box_event ?hg (N := 7) ?hd (cs := #[.int .i64 0, .int .i64 0, .int .i64 0, .slice none 0 0, .slice none 0 0]) (t := 81) ?hr ?_; (case hd => rfl); (case hg => rfl); (case hr => first | (go_simp; done) | (go_simp; rfl)); intro gB7 hg_ w_gB7 BK_ hb_; have ORD_ : Aside0 ((((True) ∧ (w.heap.size ≤ gB3)) ∧ (gB3 < gB6 ∧ w.heap.size ≤ gB6)) ∧ (gB3 < gB7 ∧ gB6 < gB7 ∧ w.heap.size ≤ gB7)) := ⟨by refine ⟨ORD.out, ?_⟩; (have := HB.out.size); (have := blk_lt B3.out); (have := blk_lt B6.out); omega⟩; clear ORD; have ORD := ORD_; clear ORD_; have n0_ : Aside0 (Below w.heap.size w w_gB7) := ⟨Hx.bb_below hb_ (by first | exact HB.out | exact below_drew1 HB.out | exact pw_below_drewN HB.out _)⟩; have n1_ : Aside0 (w_gB7.heap[gB3]? = some (.cells #[.int .i64 p.e, .int .i64 p.t, .int .i64 p.c] 41 (0, 0))) := ⟨Hx.b_below hb_ B3.out⟩; have n2_ : Aside0 (w_gB7.heap[gB6]? = some (.cells #[.int .i64 0, .int .i64 0, .int .i64 0, .slice none 0 0, .slice none 0 0] 81 (0, 0))) := ⟨Hx.b_below hb_ B6.out⟩; have m0_ : Aside0 (w_gB7.heap[gB7]? = some (.cells #[.int .i64 0, .int .i64 0, .int .i64 0, .slice none 0 0, .slice none 0 0] 81 (0, 0))) := ⟨BK_⟩; (try clear cB3_0 dB3_0 cB3_1 dB3_1 cB3_2 dB3_2 cB6_0 dB6_0 cB6_1 dB6_1 cB6_2 dB6_2 cB6_3 dB6_3 cB6_4 dB6_4); (try clear HB); (try clear B3); (try clear B6); have HB := n0_; have B3 := n1_; have B6 := n2_; have B7 := m0_; clear n0_ n1_ n2_ m0_; have cB3_0 : w_gB7.cell? ⟨gB3, 0, none⟩ = some (.int .i64 p.e) := (blk_cell B3.out 0).trans rfl; have dB3_0 := blk_frozen B3.out 0; have cB3_1 : w_gB7.cell? ⟨gB3, 1, none⟩ = some (.int .i64 p.t) := (blk_cell B3.out 1).trans rfl; have dB3_1 := blk_frozen B3.out 1; have cB3_2 : w_gB7.cell? ⟨gB3, 2, none⟩ = some (.int .i64 p.c) := (blk_cell B3.out 2).trans rfl; have dB3_2 := blk_frozen B3.out 2; have cB6_0 : w_gB7.cell? ⟨gB6, 0, none⟩ = some (.int .i64 0) := (blk_cell B6.out 0).trans rfl; have dB6_0 := blk_frozen B6.out 0; have cB6_1 : w_gB7.cell? ⟨gB6, 1, none⟩ = some (.int .i64 0) := (blk_cell B6.out 1).trans rfl; have dB6_1 := blk_frozen B6.out 1; have cB6_2 : w_gB7.cell? ⟨gB6, 2, none⟩ = some (.int .i64 0) := (blk_cell B6.out 2).trans rfl; have dB6_2 := blk_frozen B6.out 2; have cB6_3 : w_gB7.cell? ⟨gB6, 3, none⟩ = some (.slice none 0 0) := (blk_cell B6.out 3).trans rfl; have dB6_3 := blk_frozen B6.out 3; have cB6_4 : w_gB7.cell? ⟨gB6, 4, none⟩ = some (.slice none 0 0) := (blk_cell B6.out 4).trans rfl; have dB6_4 := blk_frozen B6.out 4; have cB7_0 : w_gB7.cell? ⟨gB7, 0, none⟩ = some (.int .i64 0) := (blk_cell B7.out 0).trans rfl; have dB7_0 := blk_frozen B7.out 0; have cB7_1 : w_gB7.cell? ⟨gB7, 1, none⟩ = some (.int .i64 0) := (blk_cell B7.out 1).trans rfl; have dB7_1 := blk_frozen B7.out 1; have cB7_2 : w_gB7.cell? ⟨gB7, 2, none⟩ = some (.int .i64 0) := (blk_cell B7.out 2).trans rfl; have dB7_2 := blk_frozen B7.out 2; have cB7_3 : w_gB7.cell? ⟨gB7, 3, none⟩ = some (.slice none 0 0) := (blk_cell B7.out 3).trans rfl; have dB7_3 := blk_frozen B7.out 3; have cB7_4 : w_gB7.cell? ⟨gB7, 4, none⟩ = some (.slice none 0 0) := (blk_cell B7.out 4).trans rfl; have dB7_4 := blk_frozen B7.out 4; clear hg_ BK_ hb_) | ((with_reducible refine gate_store (t := 81) (p := 7) rfl ?_); refine store_event (t := 81) (p := 7) (v := ?vo_w1) (w1 := ((((((w_gB7).setCell ⟨gB7, 0, none⟩ (.int .i64 p.e)).setCell ⟨gB7, 1, none⟩ (.int .i64 p.t)).setCell ⟨gB7, 2, none⟩ (.int .i64 p.c)).setCell ⟨gB7, 3, none⟩ (.slice none 0 0)).setCell ⟨gB7, 4, none⟩ (.slice none 0 0))) ?hg ?ho ?hn ?hr ?_; (case ho => rfl); (case hg => rfl); (case hn => rfl); (case hr => first | (go_simp; done) | (go_simp; rfl)); intro w_1 hw_; have e0_ : gB3 ≠ gB7 := (by have := ORD.out; omega); have e1_ : gB6 ≠ gB7 := (by have := ORD.out; omega); have n0_ : Aside0 (Below w.heap.size w w_1) := ⟨by rw [hw_]; exact below_set (g := gB7) (below_set (g := gB7) (below_set (g := gB7) (below_set (g := gB7) (below_set (g := gB7) HB.out (by have := ORD.out; omega)) (by have := ORD.out; omega)) (by have := ORD.out; omega)) (by have := ORD.out; omega)) (by have := ORD.out; omega)⟩; have n1_ : Aside0 (w_1.heap[gB3]? = some (.cells #[.int .i64 p.e, .int .i64 p.t, .int .i64 p.c] 41 (0, 0))) := ⟨by rw [hw_]; exact blk_far (blk_far (blk_far (blk_far (blk_far B3.out e0_ _) e0_ _) e0_ _) e0_ _) e0_ _⟩; have n2_ : Aside0 (w_1.heap[gB6]? = some (.cells #[.int .i64 0, .int .i64 0, .int .i64 0, .slice none 0 0, .slice none 0 0] 81 (0, 0))) := ⟨by rw [hw_]; exact blk_far (blk_far (blk_far (blk_far (blk_far B6.out e1_ _) e1_ _) e1_ _) e1_ _) e1_ _⟩; have n3_ : Aside0 (w_1.heap[gB7]? = some (.cells #[.int .i64 p.e, .int .i64 p.t, .int .i64 p.c, .slice none 0 0, .slice none 0 0] 81 (0, 0))) := ⟨by rw [hw_]; exact blk_put (blk_put (blk_put (blk_put (blk_put B7.out 0 _ rfl) 1 _ rfl) 2 _ rfl) 3 _ rfl) 4 _ rfl⟩; (try clear cB3_0 dB3_0 cB3_1 dB3_1 cB3_2 dB3_2 cB6_0 dB6_0 cB6_1 dB6_1 cB6_2 dB6_2 cB6_3 dB6_3 cB6_4 dB6_4 cB7_0 dB7_0 cB7_1 dB7_1 cB7_2 dB7_2 cB7_3 dB7_3 cB7_4 dB7_4); (try clear HB); (try clear B3); (try clear B6); (try clear B7); have HB := n0_; have B3 := n1_; have B6 := n2_; have B7 := n3_; clear n0_ n1_ n2_ n3_; have cB3_0 : w_1.cell? ⟨gB3, 0, none⟩ = some (.int .i64 p.e) := (blk_cell B3.out 0).trans rfl; have dB3_0 := blk_frozen B3.out 0; have cB3_1 : w_1.cell? ⟨gB3, 1, none⟩ = some (.int .i64 p.t) := (blk_cell B3.out 1).trans rfl; have dB3_1 := blk_frozen B3.out 1; have cB3_2 : w_1.cell? ⟨gB3, 2, none⟩ = some (.int .i64 p.c) := (blk_cell B3.out 2).trans rfl; have dB3_2 := blk_frozen B3.out 2; have cB6_0 : w_1.cell? ⟨gB6, 0, none⟩ = some (.int .i64 0) := (blk_cell B6.out 0).trans rfl; have dB6_0 := blk_frozen B6.out 0; have cB6_1 : w_1.cell? ⟨gB6, 1, none⟩ = some (.int .i64 0) := (blk_cell B6.out 1).trans rfl; have dB6_1 := blk_frozen B6.out 1; have cB6_2 : w_1.cell? ⟨gB6, 2, none⟩ = some (.int .i64 0) := (blk_cell B6.out 2).trans rfl; have dB6_2 := blk_frozen B6.out 2; have cB6_3 : w_1.cell? ⟨gB6, 3, none⟩ = some (.slice none 0 0) := (blk_cell B6.out 3).trans rfl; have dB6_3 := blk_frozen B6.out 3; have cB6_4 : w_1.cell? ⟨gB6, 4, none⟩ = some (.slice none 0 0) := (blk_cell B6.out 4).trans rfl; have dB6_4 := blk_frozen B6.out 4; have cB7_0 : w_1.cell? ⟨gB7, 0, none⟩ = some (.int .i64 p.e) := (blk_cell B7.out 0).trans rfl; have dB7_0 := blk_frozen B7.out 0; have cB7_1 : w_1.cell? ⟨gB7, 1, none⟩ = some (.int .i64 p.t) := (blk_cell B7.out 1).trans rfl; have dB7_1 := blk_frozen B7.out 1; have cB7_2 : w_1.cell? ⟨gB7, 2, none⟩ = some (.int .i64 p.c) := (blk_cell B7.out 2).trans rfl; have dB7_2 := blk_frozen B7.out 2; have cB7_3 : w_1.cell? ⟨gB7, 3, none⟩ = some (.slice none 0 0) := (blk_cell B7.out 3).trans rfl; have dB7_3 := blk_frozen B7.out 3; have cB7_4 : w_1.cell? ⟨gB7, 4, none⟩ = some (.slice none 0 0) := (blk_cell B7.out 4).trans rfl; have dB7_4 := blk_frozen B7.out 4; clear hw_ e0_ e1_))
  go_loopg [8] (E + 1) (fun k v8 w' => ∃ (e : Nat) (vl vh : Value) (rl rh : List Nat), v8 = .int .i64 (e : Int) ∧ Aside0 (e + k = E + 1) ∧ Aside0 (rl.length = e ∧ rh.length = e) ∧ Aside0 (∀ r, r ∈ rl ++ rh → w.heap.size ≤ r) ∧ Aside0 (Bld w.heap.size w' gB7 p N vl vh rl rh) ∧ Aside0 (w'.heap[gB6]? = some (.cells #[.int .i64 0, .int .i64 0, .int .i64 0, .slice none 0 0, .slice none 0 0] 81 (0, 0))) ∧ Aside0 (Below w.heap.size w w'))
  case atStart => exact ⟨0, _, _, [], [], rfl, ⟨by omega⟩, ⟨rfl, rfl⟩, ⟨fun r hr => by simp at hr⟩, ⟨Bld.start N B7.out (by have := ORD.out; omega)⟩, B6, HB⟩
  case round =>
    clear B6 HB B7 B3
    obtain ⟨e, vl, vh, rl, rh, rfl, HK, HLn, HLw, HBL, B6, HB⟩ := hrel
    by_cases hle : e ≤ E
    · have d1 : decide ((e : Int) ≤ (E : Int)) = true := decide_eq_true (by omega)
      have d1' : (e ≤ E) = True := eq_true hle
      have wN : IntKind.i64.wrap ((N : Int) + 1) = (N : Int) + 1 := Hw.wrap_w (by omega) (by have := HE.out; omega)
      have we : IntKind.i64.wrap ((e : Int) + 1) = ((e + 1 : Nat) : Int) := Hw.wrap_w (by omega) (by have := HE.out; omega)
      have hmk := mkRow N (by have := HE.out; omega)
      have HL := Aside0.mk hle
      replace HK : Aside0 (e + gk = E + 1 ∧ E ≤ 10) := ⟨by have := HK.out; have := HE.out; omega⟩
      clear hle
      go_upto_region 5 with fail
      refine start_ (n := 9) (S := fun w' => w'.cell? ⟨gB7, 3, none⟩ = some vl) (ds := [8]) #[false, false, false, false, false, false, false, false, false] (by kernel_rfl) rfl rfl ((blk_cell (blk_drew HBL.out.box) 3).trans rfl) (fun hHeld => ?_)
      refine pure_ (i := 0) (N := some 18) (v := ?_) (a' := ?_) #[true, false, false, false, false, false, false, false, false] rfl rfl (by kernel_rfl) (fun _ _ _ h => h) (Or.inl ⟨by rfl, ?_⟩) ?_ ?_
      rotate_left
      · intro w'
        go_simp
        with_reducible rfl
      rotate_left
      · simp only [Act.put, List.setIfInBounds_toArray, List.set_cons_zero, List.set_cons_succ, i64_w, i32_w]
        rfl
      refine pure_ (i := 2) (N := some 20) (v := ?_) (a' := ?_) #[true, false, true, false, false, false, false, false, false] rfl rfl (by kernel_rfl) (fun _ _ _ h => h) (Or.inl ⟨by rfl, ?_⟩) ?_ ?_
      rotate_left
      · intro w'
        go_simp
        with_reducible rfl
      rotate_left
      · simp only [Act.put, List.setIfInBounds_toArray, List.set_cons_zero, List.set_cons_succ, i64_w, i32_w]
        rfl
      refine pure_ (i := 3) (N := some 21) (v := ?_) (a' := ?_) #[true, false, true, true, false, false, false, false, false] rfl rfl (by kernel_rfl) (fun _ _ _ h => h) (Or.inl ⟨by rfl, ?_⟩) ?_ ?_
      rotate_left
      · intro w'
        go_simp
        with_reducible rfl
      rotate_left
      · simp only [Act.put, List.setIfInBounds_toArray, List.set_cons_zero, List.set_cons_succ, i64_w, i32_w]
        rfl
      refine take_ (i := 1) (N := some 19) (v := ?_) (a' := ?_) #[true, true, true, true, false, false, false, false, false] rfl rfl (by kernel_rfl) (fun _ _ _ h => h) (Or.inl ⟨by rfl, ?_⟩) hHeld ?_ ?_
      rotate_left
      · intro w' s0
        go_simp
        with_reducible rfl
      rotate_left
      · simp only [Act.put, List.setIfInBounds_toArray, List.set_cons_zero, List.set_cons_succ, i64_w, i32_w]
        rfl
      refine one_ (i := 4) (N := some 22) #[true, true, true, true, true, false, false, false, false] rfl rfl (by kernel_rfl) (by decide) (fun K hK => ?_)
      refine value_ (w1 := ?_) (v := ?_) (by rfl) rfl ?_ ?_
      rotate_left 2
      · go_simp
        constructor
        · rfl
        · rfl
      have hb1 : Below wr.heap.size wr (wr.alloc (.cells (madeCells #[.int .i64 0] (N + 1)) 3 (0, 0))).drew := below_drew1 (below_alloc (Below.refl wr.heap.size wr) (.cells (madeCells #[.int .i64 0] (N + 1)) 3 (0, 0)))
      have hz1 : Zrow (wr.alloc (.cells (madeCells #[.int .i64 0] (N + 1)) 3 (0, 0))).drew N wr.heap.size := Zrow.made wr N
      have hni : wr.heap.size ∉ rl ++ rh := fun h_ => by obtain ⟨_, a_, _⟩ := HBL.out.rows _ h_; have := blk_lt a_; omega
      obtain ⟨w_1, hw1⟩ : ∃ W_, W_ = (wr.alloc (.cells (madeCells #[.int .i64 0] (N + 1)) 3 (0, 0))).drew := ⟨_, rfl⟩
      obtain ⟨grA, hgr⟩ : ∃ x, x = wr.heap.size := ⟨_, rfl⟩
      have hge : w.heap.size ≤ wr.heap.size := HB.out.size
      rw [← hgr] at hni hge
      have HGgrA := Aside0.mk hge
      rw [← hw1] at hb1
      rw [← hgr, ← hw1] at hz1
      rw [← hgr, ← hw1]
      have HBL1 := Aside0.mk (HBL.out.below hb1)
      have B61 := Aside0.mk (Hx.b_below hb1 B6.out)
      have HB1 := Aside0.mk (Hx.bb_below hb1 HB.out)
      have HZ1 := Aside0.mk (And.intro hz1 hni)
      clear hb1 hz1 hni hgr hw1 hge
      refine hK.out _ _ ((blk_cell HBL1.out.box 3).trans rfl) (fun hHeld => ?_)
      clear hK K
      refine norm_ (a' := ?_) ?_ ?_
      rotate_left
      · show Act.put _ (some 22) _ = _
        simp only [Act.put, List.setIfInBounds_toArray, List.set_cons_zero, List.set_cons_succ, i64_w, i32_w]
        rfl
      refine one_ (i := 5) (N := some 23) #[true, true, true, true, true, true, false, false, false] rfl rfl (by kernel_rfl) (by decide) (fun K hK => ?_)
      refine value_ (w1 := ?_) (v := ?_) (by rfl) rfl ?_ ?_
      rotate_left 2
      · go_simp
        constructor
        · rfl
        · rfl
      refine hK.out _ _ ((blk_cell (blk_alloc HBL1.out.box _) 3).trans rfl) (fun hHeld => ?_)
      clear hK K
      refine norm_ (a' := ?_) ?_ ?_
      rotate_left
      · show Act.put _ (some 23) _ = _
        simp only [Act.put, List.setIfInBounds_toArray, List.set_cons_zero, List.set_cons_succ, i64_w, i32_w]
        rfl
      refine one_ (i := 6) (N := some 24) #[true, true, true, true, true, true, true, false, false] rfl rfl (by kernel_rfl) (by decide) (fun K hK => ?_)
      refine Kd.R_append_step (Kd.raw 1) (w0 := w) (W := w_1) w.heap.size (by rfl) (.tmp 19) (.tmp 23) 30 46 (.slice none 0 0) 24 rfl Try.underlying30 info46 rfl (by decide) (by decide) vl (rl.map (hdr N)) (hdr N grA) (hdr N grA) (fun _ => True) (fun _ => False) rfl rfl ⟨rfl, rfl, by intro u hu; simp [hdr] at hu; rw [hu]; rfl⟩ (fun _ h_ => h_.elim) (fun _ _ => trivial) HBL1.out.RL HB1.out HB1.out.size (by rw [List.length_map]; have := HLn.out; have := HK.out; omega) ?_
      intro v1 w_2 ho hb hg hat
      obtain ⟨A8, c8, ev_⟩ := Kd.R_slice ho
      rw [show (rl.map (hdr N) ++ [hdr N grA]).length = rl.length + 1 by simp] at ev_
      subst ev_
      have bx8 := blk_grown HBL1.out.box hg (own_ne HBL1.out.RL HBL1.out.box (by decide))
      have b68 := blk_grown B61.out hg (own_ne HBL1.out.RL B61.out (by decide))
      have s83 : w_2.cell? ⟨gB7, 3, none⟩ = some vl := (blk_cell bx8 3).trans rfl
      have s8f := blk_frozen bx8 3
      have HBL3 := Aside0.mk (HBL1.out.appL HZ1.out.1 HZ1.out.2 ho hg hat)
      have B63 := Aside0.mk (blk_far (p := ⟨gB7, 3, none⟩) b68 (show gB6 ≠ gB7 by have := ORD.out; omega) (Value.slice A8 (rl.length + 1) c8))
      have HB3 := Aside0.mk (below_set (g := gB7) (j := 3) (v := (Value.slice A8 (rl.length + 1) c8)) hb (by have := ORD.out; omega))
      clear ho hb hg hat
      refine hK.out _ _ (s83) (fun hHeld => ?_)
      clear hK K
      refine norm_ (a' := ?_) ?_ ?_
      rotate_left
      · show Act.put _ (some 24) _ = _
        simp only [Act.put, List.setIfInBounds_toArray, List.set_cons_zero, List.set_cons_succ, i64_w, i32_w]
        rfl
      refine pure_ (i := 7) (N := some 25) (v := ?_) (a' := ?_) #[true, true, true, true, true, true, true, true, false] rfl rfl (by kernel_rfl) (fun _ _ _ h => h) (Or.inl ⟨by rfl, ?_⟩) ?_ ?_
      rotate_left
      · intro w'
        go_simp
        with_reducible rfl
      rotate_left
      · simp only [Act.put, List.setIfInBounds_toArray, List.set_cons_zero, List.set_cons_succ, i64_w, i32_w]
        rfl
      refine last_ (i := 8) (N := none) #[true, true, true, true, true, true, true, true, true] rfl rfl (by kernel_rfl) (by decide) (fun K hK => ?_)
      refine skip_ (w1 := ?_) (by rfl) rfl ?_ ?_
      rotate_left
      · go_simp
        rfl
      refine hK.out _ _ ?_
      clear hK K
      refine done_ (by kernel_rfl) ?_
      clear s83 s8f bx8 b68 HBL1 B61 HB1 HBL B6 HB HZ1
      generalize w_2.setCell ⟨gB7, 3, none⟩ (Value.slice A8 (rl.length + 1) c8) = wr2 at HBL3 B63 HB3 ⊢
      generalize (Value.slice A8 (rl.length + 1) c8) = vl2 at HBL3
      obtain ⟨rl2, hrl2⟩ : ∃ x, x = rl ++ [grA] := ⟨_, rfl⟩
      rw [← hrl2] at HBL3
      have HRL2 := Aside0.mk hrl2
      clear hrl2
      have HBL := HBL3
      have B6 := B63
      have HB := HB3
      clear HBL3 B63 HB3
      go_upto_region 6 with fail
      refine start_ (n := 9) (S := fun w' => w'.cell? ⟨gB7, 4, none⟩ = some vh) (ds := [8]) #[false, false, false, false, false, false, false, false, false] (by kernel_rfl) rfl rfl ((blk_cell (blk_drew HBL.out.box) 4).trans rfl) (fun hHeld => ?_)
      refine pure_ (i := 0) (N := some 26) (v := ?_) (a' := ?_) #[true, false, false, false, false, false, false, false, false] rfl rfl (by kernel_rfl) (fun _ _ _ h => h) (Or.inl ⟨by rfl, ?_⟩) ?_ ?_
      rotate_left
      · intro w'
        go_simp
        with_reducible rfl
      rotate_left
      · simp only [Act.put, List.setIfInBounds_toArray, List.set_cons_zero, List.set_cons_succ, i64_w, i32_w]
        rfl
      refine pure_ (i := 2) (N := some 28) (v := ?_) (a' := ?_) #[true, false, true, false, false, false, false, false, false] rfl rfl (by kernel_rfl) (fun _ _ _ h => h) (Or.inl ⟨by rfl, ?_⟩) ?_ ?_
      rotate_left
      · intro w'
        go_simp
        with_reducible rfl
      rotate_left
      · simp only [Act.put, List.setIfInBounds_toArray, List.set_cons_zero, List.set_cons_succ, i64_w, i32_w]
        rfl
      refine pure_ (i := 3) (N := some 29) (v := ?_) (a' := ?_) #[true, false, true, true, false, false, false, false, false] rfl rfl (by kernel_rfl) (fun _ _ _ h => h) (Or.inl ⟨by rfl, ?_⟩) ?_ ?_
      rotate_left
      · intro w'
        go_simp
        with_reducible rfl
      rotate_left
      · simp only [Act.put, List.setIfInBounds_toArray, List.set_cons_zero, List.set_cons_succ, i64_w, i32_w]
        rfl
      refine take_ (i := 1) (N := some 27) (v := ?_) (a' := ?_) #[true, true, true, true, false, false, false, false, false] rfl rfl (by kernel_rfl) (fun _ _ _ h => h) (Or.inl ⟨by rfl, ?_⟩) hHeld ?_ ?_
      rotate_left
      · intro w' s0
        go_simp
        with_reducible rfl
      rotate_left
      · simp only [Act.put, List.setIfInBounds_toArray, List.set_cons_zero, List.set_cons_succ, i64_w, i32_w]
        rfl
      refine one_ (i := 4) (N := some 30) #[true, true, true, true, true, false, false, false, false] rfl rfl (by kernel_rfl) (by decide) (fun K hK => ?_)
      refine value_ (w1 := ?_) (v := ?_) (by rfl) rfl ?_ ?_
      rotate_left 2
      · go_simp
        constructor
        · rfl
        · rfl
      have hb1 : Below wr2.heap.size wr2 (wr2.alloc (.cells (madeCells #[.int .i64 0] (N + 1)) 3 (0, 0))).drew := below_drew1 (below_alloc (Below.refl wr2.heap.size wr2) (.cells (madeCells #[.int .i64 0] (N + 1)) 3 (0, 0)))
      have hz1 : Zrow (wr2.alloc (.cells (madeCells #[.int .i64 0] (N + 1)) 3 (0, 0))).drew N wr2.heap.size := Zrow.made wr2 N
      have hni : wr2.heap.size ∉ rl2 ++ rh := fun h_ => by obtain ⟨_, a_, _⟩ := HBL.out.rows _ h_; have := blk_lt a_; omega
      obtain ⟨w_1, hw1⟩ : ∃ W_, W_ = (wr2.alloc (.cells (madeCells #[.int .i64 0] (N + 1)) 3 (0, 0))).drew := ⟨_, rfl⟩
      obtain ⟨grB, hgr⟩ : ∃ x, x = wr2.heap.size := ⟨_, rfl⟩
      have hge : w.heap.size ≤ wr2.heap.size := HB.out.size
      rw [← hgr] at hni hge
      have HGgrB := Aside0.mk hge
      rw [← hw1] at hb1
      rw [← hgr, ← hw1] at hz1
      rw [← hgr, ← hw1]
      have HBL1 := Aside0.mk (HBL.out.below hb1)
      have B61 := Aside0.mk (Hx.b_below hb1 B6.out)
      have HB1 := Aside0.mk (Hx.bb_below hb1 HB.out)
      have HZ1 := Aside0.mk (And.intro hz1 hni)
      clear hb1 hz1 hni hgr hw1 hge
      refine hK.out _ _ ((blk_cell HBL1.out.box 4).trans rfl) (fun hHeld => ?_)
      clear hK K
      refine norm_ (a' := ?_) ?_ ?_
      rotate_left
      · show Act.put _ (some 30) _ = _
        simp only [Act.put, List.setIfInBounds_toArray, List.set_cons_zero, List.set_cons_succ, i64_w, i32_w]
        rfl
      refine one_ (i := 5) (N := some 31) #[true, true, true, true, true, true, false, false, false] rfl rfl (by kernel_rfl) (by decide) (fun K hK => ?_)
      refine value_ (w1 := ?_) (v := ?_) (by rfl) rfl ?_ ?_
      rotate_left 2
      · go_simp
        constructor
        · rfl
        · rfl
      refine hK.out _ _ ((blk_cell (blk_alloc HBL1.out.box _) 4).trans rfl) (fun hHeld => ?_)
      clear hK K
      refine norm_ (a' := ?_) ?_ ?_
      rotate_left
      · show Act.put _ (some 31) _ = _
        simp only [Act.put, List.setIfInBounds_toArray, List.set_cons_zero, List.set_cons_succ, i64_w, i32_w]
        rfl
      refine one_ (i := 6) (N := some 32) #[true, true, true, true, true, true, true, false, false] rfl rfl (by kernel_rfl) (by decide) (fun K hK => ?_)
      refine Kd.R_append_step (Kd.raw 1) (w0 := w) (W := w_1) w.heap.size (by rfl) (.tmp 27) (.tmp 31) 30 46 (.slice none 0 0) 24 rfl Try.underlying30 info46 rfl (by decide) (by decide) vh (rh.map (hdr N)) (hdr N grB) (hdr N grB) (fun _ => True) (fun _ => False) rfl rfl ⟨rfl, rfl, by intro u hu; simp [hdr] at hu; rw [hu]; rfl⟩ (fun _ h_ => h_.elim) (fun _ _ => trivial) HBL1.out.RH HB1.out HB1.out.size (by rw [List.length_map]; have := HLn.out; have := HK.out; omega) ?_
      intro v1 w_2 ho hb hg hat
      obtain ⟨A8, c8, ev_⟩ := Kd.R_slice ho
      rw [show (rh.map (hdr N) ++ [hdr N grB]).length = rh.length + 1 by simp] at ev_
      subst ev_
      have bx8 := blk_grown HBL1.out.box hg (own_ne HBL1.out.RH HBL1.out.box (by decide))
      have b68 := blk_grown B61.out hg (own_ne HBL1.out.RH B61.out (by decide))
      have s83 : w_2.cell? ⟨gB7, 4, none⟩ = some vh := (blk_cell bx8 4).trans rfl
      have s8f := blk_frozen bx8 4
      have HBL3 := Aside0.mk (HBL1.out.appH HZ1.out.1 HZ1.out.2 ho hg hat)
      have B63 := Aside0.mk (blk_far (p := ⟨gB7, 4, none⟩) b68 (show gB6 ≠ gB7 by have := ORD.out; omega) (Value.slice A8 (rh.length + 1) c8))
      have HB3 := Aside0.mk (below_set (g := gB7) (j := 4) (v := (Value.slice A8 (rh.length + 1) c8)) hb (by have := ORD.out; omega))
      clear ho hb hg hat
      refine hK.out _ _ (s83) (fun hHeld => ?_)
      clear hK K
      refine norm_ (a' := ?_) ?_ ?_
      rotate_left
      · show Act.put _ (some 32) _ = _
        simp only [Act.put, List.setIfInBounds_toArray, List.set_cons_zero, List.set_cons_succ, i64_w, i32_w]
        rfl
      refine pure_ (i := 7) (N := some 33) (v := ?_) (a' := ?_) #[true, true, true, true, true, true, true, true, false] rfl rfl (by kernel_rfl) (fun _ _ _ h => h) (Or.inl ⟨by rfl, ?_⟩) ?_ ?_
      rotate_left
      · intro w'
        go_simp
        with_reducible rfl
      rotate_left
      · simp only [Act.put, List.setIfInBounds_toArray, List.set_cons_zero, List.set_cons_succ, i64_w, i32_w]
        rfl
      refine last_ (i := 8) (N := none) #[true, true, true, true, true, true, true, true, true] rfl rfl (by kernel_rfl) (by decide) (fun K hK => ?_)
      refine skip_ (w1 := ?_) (by rfl) rfl ?_ ?_
      rotate_left
      · go_simp
        rfl
      refine hK.out _ _ ?_
      clear hK K
      refine done_ (by kernel_rfl) ?_
      clear s83 s8f bx8 b68 HBL1 B61 HB1 HBL B6 HB HZ1
      generalize w_2.setCell ⟨gB7, 4, none⟩ (Value.slice A8 (rh.length + 1) c8) = wr3 at HBL3 B63 HB3 ⊢
      generalize (Value.slice A8 (rh.length + 1) c8) = vh2 at HBL3
      have HBL := HBL3
      have B6 := B63
      have HB := HB3
      clear HBL3 B63 HB3
      go_wp2
      go_roundg (E - e)
      case measure => have := HK.out; have := HL.out; omega
      case rel => exact ⟨e + 1, _, _, rl2, rh ++ [grB], rfl, ⟨by have := HK.out; have := HL.out; omega⟩, ⟨by have := HLn.out; rw [HRL2.out]; simp; omega, by have := HLn.out; simp; omega⟩, ⟨lo_app HLw.out HRL2.out HGgrA.out HGgrB.out⟩, HBL, B6, HB⟩
    · have d1 : decide ((e : Int) ≤ (E : Int)) = false := decide_eq_false (by omega)
      have d1' : (e ≤ E) = False := eq_false hle
      obtain ⟨t, htE, htN, hX, hA, hR, hM⟩ := HBL.out.done (E := E) (by have := HK.out; have := HLn.out; omega) (by have := HK.out; have := HLn.out; omega)
      have HA := Aside0.mk hA
      have HX0 := Aside0.mk hX
      have HR0 := Aside0.mk hR
      have HT := Aside0.mk (And.intro htE htN)
      have HLO : Aside0 (∀ s e, e ≤ E → w.heap.size ≤ t.rr s e) := ⟨fun s e he => HLw.out _ (hM s e he)⟩
      clear hX hA hR htE htN HBL hle HLn HK hM HLw
      go_wp2
      go_loopg [9] E (fun k v9 w' => ∃ (e : Nat) (V : Bool → Nat → Nat → Int), v9 = .int .i64 (e : Int) ∧ Aside0 (1 ≤ e ∧ e + k = E + 1) ∧ Aside0 (Rows w' t V) ∧ Aside0 (Bx w' gB7 p t) ∧ Aside0 (w'.heap[gB6]? = some (.cells #[.int .i64 0, .int .i64 0, .int .i64 0, .slice none 0 0, .slice none 0 0] 81 (0, 0))) ∧ Aside0 (Below w.heap.size w w') ∧ Aside0 (Kn p E N V e 1))
      case atStart => exact ⟨1, _, rfl, ⟨by omega⟩, HR0, HX0, B6, HB, ⟨Kn.zero p E N⟩⟩
      case round =>
        clear HR0 HX0 B6 HB d1 d1'
        obtain ⟨e, V, rfl, HK, HR, HX, B6, HB, HKn⟩ := hrel
        by_cases hle : e ≤ E
        · have d1 : decide ((e : Int) ≤ (E : Int)) = true := decide_eq_true (by omega)
          have d1' : (e ≤ E) = True := eq_true hle
          have HL := Aside0.mk hle
          clear hle
          go_wp2
          go_loopg [10] N (fun k v10 w' => ∃ (n : Nat) (V : Bool → Nat → Nat → Int), v10 = .int .i64 (n : Int) ∧ Aside0 (1 ≤ n ∧ n + k = N + 1) ∧ Aside0 (Rows w' t V) ∧ Aside0 (Bx w' gB7 p t) ∧ Aside0 (w'.heap[gB6]? = some (.cells #[.int .i64 0, .int .i64 0, .int .i64 0, .slice none 0 0, .slice none 0 0] 81 (0, 0))) ∧ Aside0 (Below w.heap.size w w') ∧ Aside0 (Kn p E N V e n))
          case atStart => exact ⟨1, V, rfl, ⟨by omega⟩, HR, HX, B6, HB, HKn⟩
          case round =>
            clear HR HX B6 HB HKn V
            obtain ⟨n, V, rfl, HK2, HR, HX, B6, HB, HKn⟩ := hrel
            by_cases hln : n ≤ N
            · have d2 : decide ((n : Int) ≤ (N : Int)) = true := decide_eq_true (by omega)
              have d2' : (n ≤ N) = True := eq_true hln
              have i1 : (e < E + 1) = True := eq_true (by have := HL.out; omega)
              have i2 : ((e : Int) < (E : Int) + 1) = True := eq_true (by have := HL.out; omega)
              have i3 : (n < N + 1) = True := eq_true (by omega)
              have i4 : ((n : Int) < (N : Int) + 1) = True := eq_true (by omega)
              have i5 : ((0 : Int) ≤ (e : Int)) = True := eq_true (by omega)
              have i6 : ((0 : Int) ≤ (n : Int)) = True := eq_true (by omega)
              have wn : IntKind.i64.wrap ((n : Int) + 1) = (n : Int) + 1 := Hw.wrap_w (by omega) (by have := HE.out; omega)
              have HG : Aside0 (1 ≤ e ∧ e ≤ E ∧ n ≤ N ∧ t.E = E ∧ t.N = N ∧ 1 ≤ n ∧ E ≤ 10 ∧ N ≤ 60 ∧ e ≤ t.E ∧ n ≤ t.N ∧ t.E ≤ 10 ∧ t.N ≤ 60) := ⟨by have := HK.out; have := HL.out; have := HT.out; have := HK2.out; have := HE.out; omega⟩
              clear hln
              obtain ⟨xl, hxl⟩ : ∃ x, x = cst p e n 0 := ⟨_, rfl⟩
              obtain ⟨gl, hgg⟩ : ∃ x, x = t.gg false := ⟨_, rfl⟩
              obtain ⟨cl, hcc⟩ : ∃ x, x = t.cc false := ⟨_, rfl⟩
              obtain ⟨ql, hrr⟩ : ∃ x, x = t.rr false e := ⟨_, rfl⟩
              have f1 := HX.out.cells.2.2.2.1
              have f2 := HR.out.head false (e := e) (by have := HG.out; omega)
              rw [HG.out.2.2.2.1, ← hgg, ← hcc] at f1
              rw [HG.out.2.2.2.2.1, ← hgg, ← hrr] at f2
              have HQ := Aside0.mk (And.intro hgg (And.intro hcc hrr))
              have FL : Aside0 (∀ W, Below wr.heap.size wr W → Calls Try.prog 109 #[.pointer (some ⟨gB7, 0, none⟩), .int .i64 (e : Int), .int .i64 (n : Int), .int .i64 0] W fun e_ w' => e_ = .returned (.int .i64 xl) ∧ Below W.heap.size W w') := ⟨by
                intro W hW
                have h_ := csleast.calls W gB7 p t V e n 0 (HX.out.below hW) (HR.out.below hW) HP.out (by have := HG.out; omega) (fun m hm => (HKn.out e m (by have := HG.out; omega) (by have := HG.out; omega) (.inr ⟨by have := HG.out; omega, .inr ⟨rfl, hm⟩⟩)).1) (fun m hm h2 => (HKn.out (e - 1) m (by have := HG.out; omega) (by have := HG.out; omega) (by have := HG.out; omega)).2)
                rw [if_neg (by decide), ← hxl] at h_
                exact h_⟩
              have HXv := Aside0.mk hxl
              clear hgg hcc hrr hxl
              go_upto_region 13 with fail
              refine start_ (n := 11) (S := fun w' => w'.cell? ⟨gB7, 3, none⟩ = some (.slice (some ⟨gl, 0, none⟩) (E + 1) cl) ∧ w'.cell? ⟨gl, e, none⟩ = some (.slice (some ⟨ql, 0, none⟩) (N + 1) (N + 1))) (ds := [10]) #[false, false, false, false, false, false, false, false, false, false, false] (by kernel_rfl) rfl rfl ⟨f1, f2⟩ (fun hHeld => ?_)
              refine pure_ (i := 0) (N := some 44) (v := ?_) (a' := ?_) #[true, false, false, false, false, false, false, false, false, false, false] rfl rfl (by kernel_rfl) (fun _ _ _ h => h) (Or.inl ⟨by rfl, ?_⟩) ?_ ?_
              rotate_left
              · intro w'
                go_simp
                with_reducible rfl
              rotate_left
              · simp only [Act.put, List.setIfInBounds_toArray, List.set_cons_zero, List.set_cons_succ, i64_w, i32_w]
                rfl
              refine pure_ (i := 2) (N := some 46) (v := ?_) (a' := ?_) #[true, false, true, false, false, false, false, false, false, false, false] rfl rfl (by kernel_rfl) (fun _ _ _ h => h) (Or.inl ⟨by rfl, ?_⟩) ?_ ?_
              rotate_left
              · intro w'
                go_simp
                with_reducible rfl
              rotate_left
              · simp only [Act.put, List.setIfInBounds_toArray, List.set_cons_zero, List.set_cons_succ, i64_w, i32_w]
                rfl
              refine pure_ (i := 5) (N := some 49) (v := ?_) (a' := ?_) #[true, false, true, false, false, true, false, false, false, false, false] rfl rfl (by kernel_rfl) (fun _ _ _ h => h) (Or.inl ⟨by rfl, ?_⟩) ?_ ?_
              rotate_left
              · intro w'
                go_simp
                with_reducible rfl
              rotate_left
              · simp only [Act.put, List.setIfInBounds_toArray, List.set_cons_zero, List.set_cons_succ, i64_w, i32_w]
                rfl
              refine pure_ (i := 6) (N := some 50) (v := ?_) (a' := ?_) #[true, false, true, false, false, true, true, false, false, false, false] rfl rfl (by kernel_rfl) (fun _ _ _ h => h) (Or.inl ⟨by rfl, ?_⟩) ?_ ?_
              rotate_left
              · intro w'
                go_simp
                with_reducible rfl
              rotate_left
              · simp only [Act.put, List.setIfInBounds_toArray, List.set_cons_zero, List.set_cons_succ, i64_w, i32_w]
                rfl
              refine pure_ (i := 7) (N := some 51) (v := ?_) (a' := ?_) #[true, false, true, false, false, true, true, true, false, false, false] rfl rfl (by kernel_rfl) (fun _ _ _ h => h) (Or.inl ⟨by rfl, ?_⟩) ?_ ?_
              rotate_left
              · intro w'
                go_simp
                with_reducible rfl
              rotate_left
              · simp only [Act.put, List.setIfInBounds_toArray, List.set_cons_zero, List.set_cons_succ, i64_w, i32_w]
                rfl
              refine take_ (i := 1) (N := some 45) (v := ?_) (a' := ?_) #[true, true, true, false, false, true, true, true, false, false, false] rfl rfl (by kernel_rfl) (fun _ _ _ h => h) (Or.inl ⟨by rfl, ?_⟩) hHeld ?_ ?_
              rotate_left
              · rintro w' ⟨s0, s1⟩
                go_simp
                with_reducible rfl
              rotate_left
              · simp only [Act.put, List.setIfInBounds_toArray, List.set_cons_zero, List.set_cons_succ, i64_w, i32_w]
                rfl
              refine pure_ (i := 3) (N := some 47) (v := ?_) (a' := ?_) #[true, true, true, true, false, true, true, true, false, false, false] rfl rfl (by kernel_rfl) (fun _ _ _ h => h) (Or.inl ⟨by rfl, ?_⟩) ?_ ?_
              rotate_left
              · intro w'
                go_simp
                with_reducible rfl
              rotate_left
              · simp only [Act.put, List.setIfInBounds_toArray, List.set_cons_zero, List.set_cons_succ, i64_w, i32_w]
                rfl
              refine take_ (i := 4) (N := some 48) (v := ?_) (a' := ?_) #[true, true, true, true, true, true, true, true, false, false, false] rfl rfl (by kernel_rfl) (fun _ _ _ h => h) (Or.inl ⟨by rfl, ?_⟩) hHeld ?_ ?_
              rotate_left
              · rintro w' ⟨s0, s1⟩
                go_simp
                with_reducible rfl
              rotate_left
              · simp only [Act.put, List.setIfInBounds_toArray, List.set_cons_zero, List.set_cons_succ, i64_w, i32_w]
                rfl
              refine one_ (i := 8) (N := some 52) #[true, true, true, true, true, true, true, true, true, false, false] rfl rfl (by kernel_rfl) (by decide) (fun K hK => ?_)
              refine goes_ Try.func109 (by kernel_rfl) rfl #[.pointer (some ⟨gB7, 0, none⟩), .int .i64 (e : Int), .int .i64 (n : Int), .int .i64 0] (by rfl) rfl rfl (by simp only [List.map_toArray, List.map_cons, List.map_nil]; rfl) ?_
              with_reducible refine (FL.out _ (below_drew1 (Below.refl _ _))).mono ?_
              rintro e_ w_1 ⟨rfl, hd_⟩
              refine ⟨_, rfl, ?_⟩
              have HD := Aside0.mk (Hx.undrew hd_)
              have st1 := ((HR.out.below HD.out).cell false (e := e) (n := n) (by have := HG.out; omega) (by have := HG.out; omega)).1
              have st2 := ((HR.out.below HD.out).cell false (e := e) (n := n) (by have := HG.out; omega) (by have := HG.out; omega)).2
              rw [← HQ.out.2.2] at st1 st2
              clear hd_
              refine hK.out _ _ ⟨pw_cell_below HD.out f1, pw_cell_below HD.out f2⟩ (fun hHeld => ?_)
              clear hK K
              refine norm_ (a' := ?_) ?_ ?_
              rotate_left
              · show Act.put _ (some 52) _ = _
                simp only [Act.put, List.setIfInBounds_toArray, List.set_cons_zero, List.set_cons_succ, i64_w, i32_w]
                rfl
              refine pure_ (i := 9) (N := some 53) (v := ?_) (a' := ?_) #[true, true, true, true, true, true, true, true, true, true, false] rfl rfl (by kernel_rfl) (fun _ _ _ h => h) (Or.inl ⟨by rfl, ?_⟩) ?_ ?_
              rotate_left
              · intro w'
                go_simp
                with_reducible rfl
              rotate_left
              · simp only [Act.put, List.setIfInBounds_toArray, List.set_cons_zero, List.set_cons_succ, i64_w, i32_w]
                rfl
              refine last_ (i := 10) (N := none) #[true, true, true, true, true, true, true, true, true, true, true] rfl rfl (by kernel_rfl) (by decide) (fun K hK => ?_)
              refine skip_ (w1 := ?_) (by rfl) rfl ?_ ?_
              rotate_left
              · go_simp
                rfl
              refine hK.out _ _ ?_
              clear hK K
              refine done_ (by kernel_rfl) ?_
              obtain ⟨wq, hw_⟩ : ∃ W_, W_ = w_1.setCell ⟨ql, n, none⟩ (.int .i64 xl) := ⟨_, rfl⟩
              have HR3 : Aside0 (Rows wq t (putV V false e n (cst p e n 0))) := ⟨by rw [hw_, HQ.out.2.2, ← HXv.out]; exact (HR.out.below HD.out).put HA.out false (by have := HG.out; omega) (by have := HG.out; omega) _⟩
              have HX3 : Aside0 (Bx wq gB7 p t) := ⟨by rw [hw_, HQ.out.2.2]; exact (HX.out.below HD.out).put (HR.out.below HD.out) false (by have := HG.out; omega) _ _⟩
              have B63 : Aside0 (wq.heap[gB6]? = some (.cells #[.int .i64 0, .int .i64 0, .int .i64 0, .slice none 0 0, .slice none 0 0] 81 (0, 0))) := ⟨by rw [hw_]; exact blk_far (p := ⟨ql, n, none⟩) (Hx.b_below HD.out B6.out) (by obtain ⟨_, a_, _⟩ := HR.out.2 false e (by have := HG.out; omega); rw [HQ.out.2.2]; exact blk_ne B6.out a_ (by decide)) _⟩
              have HB3 : Aside0 (Below w.heap.size w wq) := ⟨by rw [hw_]; exact below_set (g := ql) (Hx.bb_below HD.out HB.out) (by rw [HQ.out.2.2]; exact HLO.out _ _ (by have := HG.out; omega))⟩
              rw [← hw_]
              clear hw_ st1 st2 f1 f2 HD HR HX B6 HB HQ HXv FL
              have HR := HR3
              have HX := HX3
              have B6 := B63
              have HB := HB3
              clear HR3 HX3 B63 HB3
              obtain ⟨xh, hxh⟩ : ∃ x, x = cst p e n 1 := ⟨_, rfl⟩
              obtain ⟨gh, hgg⟩ : ∃ x, x = t.gg true := ⟨_, rfl⟩
              obtain ⟨ch, hcc⟩ : ∃ x, x = t.cc true := ⟨_, rfl⟩
              obtain ⟨qh, hrr⟩ : ∃ x, x = t.rr true e := ⟨_, rfl⟩
              have f1 := HX.out.cells.2.2.2.2
              have f2 := HR.out.head true (e := e) (by have := HG.out; omega)
              rw [HG.out.2.2.2.1, ← hgg, ← hcc] at f1
              rw [HG.out.2.2.2.2.1, ← hgg, ← hrr] at f2
              have HQ := Aside0.mk (And.intro hgg (And.intro hcc hrr))
              have FL : Aside0 (∀ W, Below wq.heap.size wq W → Calls Try.prog 109 #[.pointer (some ⟨gB7, 0, none⟩), .int .i64 (e : Int), .int .i64 (n : Int), .int .i64 ((n : Int) + 1)] W fun e_ w' => e_ = .returned (.int .i64 xh) ∧ Below W.heap.size W w') := ⟨by
                intro W hW
                have h_ := csleast.calls W gB7 p t (putV V false e n (cst p e n 0)) e n 1 (HX.out.below hW) (HR.out.below hW) HP.out (by have := HG.out; omega) (fun m hm => (putV_ne (.inr (.inr (by omega)))).trans (HKn.out e m (by have := HG.out; omega) (by have := HG.out; omega) (.inr ⟨by have := HG.out; omega, .inr ⟨rfl, hm⟩⟩)).1) (fun m hm h2 => (putV_ne (.inl (by decide))).trans (HKn.out (e - 1) m (by have := HG.out; omega) (by have := HG.out; omega) (by have := HG.out; omega)).2)
                rw [if_pos rfl, ← hxh] at h_
                exact h_⟩
              have HXv := Aside0.mk hxh
              clear hgg hcc hrr hxh
              go_upto_region 14 with fail
              refine start_ (n := 13) (S := fun w' => w'.cell? ⟨gB7, 4, none⟩ = some (.slice (some ⟨gh, 0, none⟩) (E + 1) ch) ∧ w'.cell? ⟨gh, e, none⟩ = some (.slice (some ⟨qh, 0, none⟩) (N + 1) (N + 1))) (ds := [12]) #[false, false, false, false, false, false, false, false, false, false, false, false, false] (by kernel_rfl) rfl rfl ⟨f1, f2⟩ (fun hHeld => ?_)
              refine pure_ (i := 0) (N := some 54) (v := ?_) (a' := ?_) #[true, false, false, false, false, false, false, false, false, false, false, false, false] rfl rfl (by kernel_rfl) (fun _ _ _ h => h) (Or.inl ⟨by rfl, ?_⟩) ?_ ?_
              rotate_left
              · intro w'
                go_simp
                with_reducible rfl
              rotate_left
              · simp only [Act.put, List.setIfInBounds_toArray, List.set_cons_zero, List.set_cons_succ, i64_w, i32_w]
                rfl
              refine pure_ (i := 2) (N := some 56) (v := ?_) (a' := ?_) #[true, false, true, false, false, false, false, false, false, false, false, false, false] rfl rfl (by kernel_rfl) (fun _ _ _ h => h) (Or.inl ⟨by rfl, ?_⟩) ?_ ?_
              rotate_left
              · intro w'
                go_simp
                with_reducible rfl
              rotate_left
              · simp only [Act.put, List.setIfInBounds_toArray, List.set_cons_zero, List.set_cons_succ, i64_w, i32_w]
                rfl
              refine pure_ (i := 5) (N := some 59) (v := ?_) (a' := ?_) #[true, false, true, false, false, true, false, false, false, false, false, false, false] rfl rfl (by kernel_rfl) (fun _ _ _ h => h) (Or.inl ⟨by rfl, ?_⟩) ?_ ?_
              rotate_left
              · intro w'
                go_simp
                with_reducible rfl
              rotate_left
              · simp only [Act.put, List.setIfInBounds_toArray, List.set_cons_zero, List.set_cons_succ, i64_w, i32_w]
                rfl
              refine pure_ (i := 6) (N := some 60) (v := ?_) (a' := ?_) #[true, false, true, false, false, true, true, false, false, false, false, false, false] rfl rfl (by kernel_rfl) (fun _ _ _ h => h) (Or.inl ⟨by rfl, ?_⟩) ?_ ?_
              rotate_left
              · intro w'
                go_simp
                with_reducible rfl
              rotate_left
              · simp only [Act.put, List.setIfInBounds_toArray, List.set_cons_zero, List.set_cons_succ, i64_w, i32_w]
                rfl
              refine pure_ (i := 7) (N := some 61) (v := ?_) (a' := ?_) #[true, false, true, false, false, true, true, true, false, false, false, false, false] rfl rfl (by kernel_rfl) (fun _ _ _ h => h) (Or.inl ⟨by rfl, ?_⟩) ?_ ?_
              rotate_left
              · intro w'
                go_simp
                with_reducible rfl
              rotate_left
              · simp only [Act.put, List.setIfInBounds_toArray, List.set_cons_zero, List.set_cons_succ, i64_w, i32_w]
                rfl
              refine pure_ (i := 8) (N := some 62) (v := ?_) (a' := ?_) #[true, false, true, false, false, true, true, true, true, false, false, false, false] rfl rfl (by kernel_rfl) (fun _ _ _ h => h) (Or.inl ⟨by rfl, ?_⟩) ?_ ?_
              rotate_left
              · intro w'
                go_simp
                with_reducible rfl
              rotate_left
              · simp only [Act.put, List.setIfInBounds_toArray, List.set_cons_zero, List.set_cons_succ, i64_w, i32_w]
                rfl
              refine pure_ (i := 9) (N := some 63) (v := ?_) (a' := ?_) #[true, false, true, false, false, true, true, true, true, true, false, false, false] rfl rfl (by kernel_rfl) (fun _ _ _ h => h) (Or.inl ⟨by rfl, ?_⟩) ?_ ?_
              rotate_left
              · intro w'
                go_simp
                with_reducible rfl
              rotate_left
              · simp only [Act.put, List.setIfInBounds_toArray, List.set_cons_zero, List.set_cons_succ, i64_w, i32_w]
                rfl
              refine take_ (i := 1) (N := some 55) (v := ?_) (a' := ?_) #[true, true, true, false, false, true, true, true, true, true, false, false, false] rfl rfl (by kernel_rfl) (fun _ _ _ h => h) (Or.inl ⟨by rfl, ?_⟩) hHeld ?_ ?_
              rotate_left
              · rintro w' ⟨s0, s1⟩
                go_simp
                with_reducible rfl
              rotate_left
              · simp only [Act.put, List.setIfInBounds_toArray, List.set_cons_zero, List.set_cons_succ, i64_w, i32_w]
                rfl
              refine pure_ (i := 3) (N := some 57) (v := ?_) (a' := ?_) #[true, true, true, true, false, true, true, true, true, true, false, false, false] rfl rfl (by kernel_rfl) (fun _ _ _ h => h) (Or.inl ⟨by rfl, ?_⟩) ?_ ?_
              rotate_left
              · intro w'
                go_simp
                with_reducible rfl
              rotate_left
              · simp only [Act.put, List.setIfInBounds_toArray, List.set_cons_zero, List.set_cons_succ, i64_w, i32_w]
                rfl
              refine take_ (i := 4) (N := some 58) (v := ?_) (a' := ?_) #[true, true, true, true, true, true, true, true, true, true, false, false, false] rfl rfl (by kernel_rfl) (fun _ _ _ h => h) (Or.inl ⟨by rfl, ?_⟩) hHeld ?_ ?_
              rotate_left
              · rintro w' ⟨s0, s1⟩
                go_simp
                with_reducible rfl
              rotate_left
              · simp only [Act.put, List.setIfInBounds_toArray, List.set_cons_zero, List.set_cons_succ, i64_w, i32_w]
                rfl
              refine one_ (i := 10) (N := some 64) #[true, true, true, true, true, true, true, true, true, true, true, false, false] rfl rfl (by kernel_rfl) (by decide) (fun K hK => ?_)
              refine goes_ Try.func109 (by kernel_rfl) rfl #[.pointer (some ⟨gB7, 0, none⟩), .int .i64 (e : Int), .int .i64 (n : Int), .int .i64 ((n : Int) + 1)] (by rfl) rfl rfl (by simp only [List.map_toArray, List.map_cons, List.map_nil]; rfl) ?_
              with_reducible refine (FL.out _ (below_drew1 (Below.refl _ _))).mono ?_
              rintro e_ w_1 ⟨rfl, hd_⟩
              refine ⟨_, rfl, ?_⟩
              have HD := Aside0.mk (Hx.undrew hd_)
              have st1 := ((HR.out.below HD.out).cell true (e := e) (n := n) (by have := HG.out; omega) (by have := HG.out; omega)).1
              have st2 := ((HR.out.below HD.out).cell true (e := e) (n := n) (by have := HG.out; omega) (by have := HG.out; omega)).2
              rw [← HQ.out.2.2] at st1 st2
              clear hd_
              refine hK.out _ _ ⟨pw_cell_below HD.out f1, pw_cell_below HD.out f2⟩ (fun hHeld => ?_)
              clear hK K
              refine norm_ (a' := ?_) ?_ ?_
              rotate_left
              · show Act.put _ (some 64) _ = _
                simp only [Act.put, List.setIfInBounds_toArray, List.set_cons_zero, List.set_cons_succ, i64_w, i32_w]
                rfl
              refine pure_ (i := 11) (N := some 65) (v := ?_) (a' := ?_) #[true, true, true, true, true, true, true, true, true, true, true, true, false] rfl rfl (by kernel_rfl) (fun _ _ _ h => h) (Or.inl ⟨by rfl, ?_⟩) ?_ ?_
              rotate_left
              · intro w'
                go_simp
                with_reducible rfl
              rotate_left
              · simp only [Act.put, List.setIfInBounds_toArray, List.set_cons_zero, List.set_cons_succ, i64_w, i32_w]
                rfl
              refine last_ (i := 12) (N := none) #[true, true, true, true, true, true, true, true, true, true, true, true, true] rfl rfl (by kernel_rfl) (by decide) (fun K hK => ?_)
              refine skip_ (w1 := ?_) (by rfl) rfl ?_ ?_
              rotate_left
              · go_simp
                rfl
              refine hK.out _ _ ?_
              clear hK K
              refine done_ (by kernel_rfl) ?_
              obtain ⟨wz, hw_⟩ : ∃ W_, W_ = w_1.setCell ⟨qh, n, none⟩ (.int .i64 xh) := ⟨_, rfl⟩
              have HR3 : Aside0 (Rows wz t (putV (putV V false e n (cst p e n 0)) true e n (cst p e n 1))) := ⟨by rw [hw_, HQ.out.2.2, ← HXv.out]; exact (HR.out.below HD.out).put HA.out true (by have := HG.out; omega) (by have := HG.out; omega) _⟩
              have HX3 : Aside0 (Bx wz gB7 p t) := ⟨by rw [hw_, HQ.out.2.2]; exact (HX.out.below HD.out).put (HR.out.below HD.out) true (by have := HG.out; omega) _ _⟩
              have B63 : Aside0 (wz.heap[gB6]? = some (.cells #[.int .i64 0, .int .i64 0, .int .i64 0, .slice none 0 0, .slice none 0 0] 81 (0, 0))) := ⟨by rw [hw_]; exact blk_far (p := ⟨qh, n, none⟩) (Hx.b_below HD.out B6.out) (by obtain ⟨_, a_, _⟩ := HR.out.2 true e (by have := HG.out; omega); rw [HQ.out.2.2]; exact blk_ne B6.out a_ (by decide)) _⟩
              have HB3 : Aside0 (Below w.heap.size w wz) := ⟨by rw [hw_]; exact below_set (g := qh) (Hx.bb_below HD.out HB.out) (by rw [HQ.out.2.2]; exact HLO.out _ _ (by have := HG.out; omega))⟩
              rw [← hw_]
              clear hw_ st1 st2 f1 f2 HD HR HX B6 HB HQ HXv FL
              have HR := HR3
              have HX := HX3
              have B6 := B63
              have HB := HB3
              clear HR3 HX3 B63 HB3
              go_wp2
              go_roundg (N - n)
              case measure => have := HK2.out; have := HG.out; omega
              case rel => exact ⟨n + 1, _, rfl, ⟨by have := HK2.out; have := HG.out; omega⟩, HR, HX, B6, HB, ⟨HKn.out.put⟩⟩
            · have d2 : decide ((n : Int) ≤ (N : Int)) = false := decide_eq_false (by omega)
              have d2' : (n ≤ N) = False := eq_false hln
              have we : IntKind.i64.wrap ((e : Int) + 1) = ((e + 1 : Nat) : Int) := Hw.wrap_w (by omega) (by have := HE.out; have := HL.out; omega)
              have HKn2 := Aside0.mk (HKn.out.next (by omega))
              clear hln HKn
              go_wp2
              go_roundg (E - e)
              case measure => have := HK.out; have := HL.out; omega
              case rel => exact ⟨e + 1, V, rfl, ⟨by have := HK.out; have := HL.out; omega⟩, HR, HX, B6, HB, HKn2⟩
        · have d1 : decide ((e : Int) ≤ (E : Int)) = false := decide_eq_false (by omega)
          have d1' : (e ≤ E) = False := eq_false hle
          have HKa : Aside0 (∀ e m, e ≤ E → m ≤ N → (m = 0 ∨ 1 ≤ e) → V false e m = cst p e m 0 ∧ V true e m = cst p e m 1) := ⟨fun e' m h1 h2 h3 => HKn.out e' m h1 h2 (by omega)⟩
          clear hle HKn
          obtain ⟨e0_, e1_, e2_, e3_, e4_⟩ := HX.out.cells
          have HNE := Aside0.mk (HR.out.apart B6.out)
          have cB6_0 : wr.cell? ⟨gB6, 0, none⟩ = some (.int .i64 0) := (blk_cell B6.out 0).trans rfl
          have dB6_0 := blk_frozen B6.out 0
          have cB6_1 : wr.cell? ⟨gB6, 1, none⟩ = some (.int .i64 0) := (blk_cell B6.out 1).trans rfl
          have dB6_1 := blk_frozen B6.out 1
          have cB6_2 : wr.cell? ⟨gB6, 2, none⟩ = some (.int .i64 0) := (blk_cell B6.out 2).trans rfl
          have dB6_2 := blk_frozen B6.out 2
          have cB6_3 : wr.cell? ⟨gB6, 3, none⟩ = some (.slice none 0 0) := (blk_cell B6.out 3).trans rfl
          have dB6_3 := blk_frozen B6.out 3
          have cB6_4 : wr.cell? ⟨gB6, 4, none⟩ = some (.slice none 0 0) := (blk_cell B6.out 4).trans rfl
          have dB6_4 := blk_frozen B6.out 4
          go_wp2_with ((with_reducible refine gate_store (t := 81) (p := 6) rfl ?_); refine store_event (t := 81) (p := 6) (v := ?vo_w9) (w1 := ((((((wr).setCell ⟨gB6, 0, none⟩ (.int .i64 p.e)).setCell ⟨gB6, 1, none⟩ (.int .i64 p.t)).setCell ⟨gB6, 2, none⟩ (.int .i64 p.c)).setCell ⟨gB6, 3, none⟩ (.slice (some ⟨t.gg false, 0, none⟩) (t.E + 1) (t.cc false))).setCell ⟨gB6, 4, none⟩ (.slice (some ⟨t.gg true, 0, none⟩) (t.E + 1) (t.cc true)))) ?hg ?ho ?hn ?hr ?_; (case ho => rfl); (case hg => rfl); (case hn => rfl); (case hr => first | (go_simp; done) | (go_simp; rfl)); intro w_9 hw_; have n0_ : Aside0 (Below w.heap.size w w_9) := ⟨by rw [hw_]; exact below_set (g := gB6) (below_set (g := gB6) (below_set (g := gB6) (below_set (g := gB6) (below_set (g := gB6) HB.out (by have := ORD.out; omega)) (by have := ORD.out; omega)) (by have := ORD.out; omega)) (by have := ORD.out; omega)) (by have := ORD.out; omega)⟩; have n1_ : Aside0 (w_9.heap[gB6]? = some (.cells #[.int .i64 p.e, .int .i64 p.t, .int .i64 p.c, .slice (some ⟨t.gg false, 0, none⟩) (t.E + 1) (t.cc false), .slice (some ⟨t.gg true, 0, none⟩) (t.E + 1) (t.cc true)] 81 (0, 0))) := ⟨by rw [hw_]; exact blk_put (blk_put (blk_put (blk_put (blk_put B6.out 0 _ rfl) 1 _ rfl) 2 _ rfl) 3 _ rfl) 4 _ rfl⟩; have n2_ : Aside0 (Rows w_9 t V) := ⟨by rw [hw_]; exact Rows.far (Rows.far (Rows.far (Rows.far (Rows.far HR.out HNE.out 0 _) HNE.out 1 _) HNE.out 2 _) HNE.out 3 _) HNE.out 4 _⟩; (try clear cB6_0 dB6_0 cB6_1 dB6_1 cB6_2 dB6_2 cB6_3 dB6_3 cB6_4 dB6_4); (try clear HB); (try clear B6); (try clear HR); have HB := n0_; have B6 := n1_; have HR := n2_; clear n0_ n1_ n2_; have cB6_0 : w_9.cell? ⟨gB6, 0, none⟩ = some (.int .i64 p.e) := (blk_cell B6.out 0).trans rfl; have dB6_0 := blk_frozen B6.out 0; have cB6_1 : w_9.cell? ⟨gB6, 1, none⟩ = some (.int .i64 p.t) := (blk_cell B6.out 1).trans rfl; have dB6_1 := blk_frozen B6.out 1; have cB6_2 : w_9.cell? ⟨gB6, 2, none⟩ = some (.int .i64 p.c) := (blk_cell B6.out 2).trans rfl; have dB6_2 := blk_frozen B6.out 2; have cB6_3 : w_9.cell? ⟨gB6, 3, none⟩ = some (.slice (some ⟨t.gg false, 0, none⟩) (t.E + 1) (t.cc false)) := (blk_cell B6.out 3).trans rfl; have dB6_3 := blk_frozen B6.out 3; have cB6_4 : w_9.cell? ⟨gB6, 4, none⟩ = some (.slice (some ⟨t.gg true, 0, none⟩) (t.E + 1) (t.cc true)) := (blk_cell B6.out 4).trans rfl; have dB6_4 := blk_frozen B6.out 4; clear hw_ )
          exact bodyPost_ret (v := .agg (tbCells p t)) (by simp [results, Try.results69, go_sem, tbCells, cB6_0, cB6_1, cB6_2, cB6_3, cB6_4]) rfl ⟨t, V, rfl, HT.out.1, HT.out.2, HR.out, HKa.out, HB.out⟩

theorem l1In_is (a b c : Int) : spec_l1In.f a b c = some (decide (b ≤ a ∧ a ≤ c)) := by
  unfold spec_l1In.f
  by_cases h : b ≤ a <;> simp [h]
theorem csAsked_is (a0 a1 a2 a3 a4 : Int) : spec_csAsked.f 5 a0 a1 a2 a3 a4 = some (cAsk a0 a1 a2 a3 a4) := by
  unfold spec_csAsked.f spec_csGood.f spec_l1All.f spec_flEggs.f cAsk
  have w1 : wrap64 1 = 1 := Hw.wrap_id (by omega) (by omega)
  have w2 : wrap64 2 = 2 := Hw.wrap_id (by omega) (by omega)
  have w3 : wrap64 3 = 3 := Hw.wrap_id (by omega) (by omega)
  have r0 : rd [a0, a1, a2] 0 = a0 := rfl
  have r1 : rd [a0, a1, a2] 1 = a1 := rfl
  have r2 : rd [a0, a1, a2] 2 = a2 := rfl
  by_cases h0 : 0 ≤ a0 ∧ a0 ≤ 1000 <;> by_cases h1 : 0 ≤ a1 ∧ a1 ≤ 1000 <;> by_cases h2 : 0 ≤ a2 ∧ a2 ≤ 1000 <;> by_cases h3 : 1 ≤ a3 ∧ a3 ≤ 10 <;>
    simp [spec_l1All.l0, l1In_is, w1, w2, w3, r0, r1, r2, h0, h1, h2, h3]


end Go.Proofs.Ytoomacelbhojhaa.E
