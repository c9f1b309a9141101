/- Plain Lean functions with the answers of Go functions, and proofs of it: printed by a program of this session (pr.py) over the kit's print, with hand-written parts. -/
import Derived.Test.YtbkplokoomodcaaHx0
import Derived.Test.YtbkplokoomodcaaHx6
namespace Go.Proofs.Ytbkplokoomodcaa.H
open Go.RowKit Go.Proofs.YtbkplokoomodcaaW.PrintWords Go.Proofs.YtbkplokoomodcaaW.PrintLast Go.Proofs.YtbkplokoomodcaaW.PrintMore
attribute [local go_sem] max2_int min2_int max_two min_two max_three min_three max_four min_four   -- for this text's walks alone
set_option linter.unusedVariables false
set_option linter.unusedSimpArgs false

/-! ### impl_isBreak: function 77 -/
def impl_isBreak.f (a0 : Int) (a1 : Int) : Option (Bool) := (impl_within.f a1 0 a0).bind fun t229 => (some t229)
set_option maxHeartbeats 8000000 in
set_option maxRecDepth 100000 in
theorem impl_isBreak.calls (a0 : Int) (a1 : Int) (r : Bool) (w : World) (h : impl_isBreak.f a0 a1 = some r) :
    Calls Try.prog 77 #[.int .i64 a0, .int .i64 a1] w fun e w' => e = .returned (.bool r) ∧ Drawn0 w w' := by
  have H : ((impl_within.f a1 0 a0).bind fun t229 => (some t229)) = some r := h
  clear h
  replace H := Option.bind_eq_some_iff.mp H
  obtain ⟨t229, A30, H⟩ := H
  replace H : (some t229) = some r := H
  have A3 := Aside0.mk A30
  clear A30
  obtain rfl := Option.some.inj H
  go_enter Try.func77, Try.ntmps77
  go_wp2_with (first | ((with_reducible refine gate_callee (f := 75) rfl ?_); refine goesL_ (some 7) rfl rfl Try.func75 (by kernel_rfl) rfl #[.int .i64 a1, .int .i64 0, .int .i64 a0] rfl (by (try simp only [List.map_toArray, List.map_cons, List.map_nil]); first | done | rfl | (simp only [List.length_drop, List.length_take]; rfl)) ?_; (with_reducible refine (impl_within.calls a1 0 a0 t229 _ A3.out).mono ?_); rintro e w' ⟨rfl, ⟨nd, rfl⟩⟩; refine ⟨_, rfl, ?_⟩))
  go_ret
  exact ⟨by first | rfl | (simp; done) | (simp [*]; done), by repeat (first | exact Drawn0.refl _ | apply Drawn0.step)⟩

/-! ### impl_IsClue: function 21 -/
def impl_IsClue.f (a0 : Int) (a1_0 : Int) (a1_1 : Int) (a1_2 : Int) : Option (Bool) := (impl_isHiddenHouse.f a0).bind fun t231 => (if t231 = true then (if a1_0 = 0 then ((impl_within.f a1_1 1 a0).bind fun t232 => (if t232 = true then ((impl_within.f a1_2 0 1).bind fun t233 => (some t233)) else (some false))) else (if a1_0 = 1 then ((impl_within.f a1_1 2 9).bind fun t234 => (if t234 = true then ((impl_within.f a1_2 0 (wrap64 (a1_1 - 1))).bind fun t235 => (some t235)) else (some false))) else (if a1_0 = 2 then ((impl_isEggs.f a1_1).bind fun t236 => (if t236 = true then ((impl_within.f a1_2 0 40).bind fun t237 => (some t237)) else (some false))) else (if a1_0 = 3 then ((impl_isEggs.f a1_1).bind fun t238 => (if t238 = true then ((impl_within.f a1_2 0 10).bind fun t239 => (some t239)) else (some false))) else (if a1_0 = 4 then ((impl_isBreak.f a0 a1_1).bind fun t240 => (if t240 = true then ((impl_isBreak.f a0 a1_2).bind fun t241 => (some t241)) else (some false))) else (some false)))))) else (some false))
set_option maxHeartbeats 8000000 in
set_option maxRecDepth 100000 in
theorem impl_IsClue.calls (a0 : Int) (a1_0 : Int) (a1_1 : Int) (a1_2 : Int) (r : Bool) (w : World) (h : impl_IsClue.f a0 a1_0 a1_1 a1_2 = some r) :
    Calls Try.prog 21 #[.int .i64 a0, .agg #[.int .i64 a1_0, .int .i64 a1_1, .int .i64 a1_2]] w fun e w' => e = .returned (.bool r) ∧ Below w.heap.size w w' := by
  have hu25 := Try.underlying25
  have HB := Aside0.mk (Below.refl w.heap.size w)
  have H : ((impl_isHiddenHouse.f a0).bind fun t231 => (if t231 = true then (if a1_0 = 0 then ((impl_within.f a1_1 1 a0).bind fun t232 => (if t232 = true then ((impl_within.f a1_2 0 1).bind fun t233 => (some t233)) else (some false))) else (if a1_0 = 1 then ((impl_within.f a1_1 2 9).bind fun t234 => (if t234 = true then ((impl_within.f a1_2 0 (wrap64 (a1_1 - 1))).bind fun t235 => (some t235)) else (some false))) else (if a1_0 = 2 then ((impl_isEggs.f a1_1).bind fun t236 => (if t236 = true then ((impl_within.f a1_2 0 40).bind fun t237 => (some t237)) else (some false))) else (if a1_0 = 3 then ((impl_isEggs.f a1_1).bind fun t238 => (if t238 = true then ((impl_within.f a1_2 0 10).bind fun t239 => (some t239)) else (some false))) else (if a1_0 = 4 then ((impl_isBreak.f a0 a1_1).bind fun t240 => (if t240 = true then ((impl_isBreak.f a0 a1_2).bind fun t241 => (some t241)) else (some false))) else (some false)))))) else (some false))) = some r := h
  clear h
  replace H := Option.bind_eq_some_iff.mp H
  obtain ⟨t231, A30, H⟩ := H
  replace H : (if t231 = true then (if a1_0 = 0 then ((impl_within.f a1_1 1 a0).bind fun t232 => (if t232 = true then ((impl_within.f a1_2 0 1).bind fun t233 => (some t233)) else (some false))) else (if a1_0 = 1 then ((impl_within.f a1_1 2 9).bind fun t234 => (if t234 = true then ((impl_within.f a1_2 0 (wrap64 (a1_1 - 1))).bind fun t235 => (some t235)) else (some false))) else (if a1_0 = 2 then ((impl_isEggs.f a1_1).bind fun t236 => (if t236 = true then ((impl_within.f a1_2 0 40).bind fun t237 => (some t237)) else (some false))) else (if a1_0 = 3 then ((impl_isEggs.f a1_1).bind fun t238 => (if t238 = true then ((impl_within.f a1_2 0 10).bind fun t239 => (some t239)) else (some false))) else (if a1_0 = 4 then ((impl_isBreak.f a0 a1_1).bind fun t240 => (if t240 = true then ((impl_isBreak.f a0 a1_2).bind fun t241 => (some t241)) else (some false))) else (some false)))))) else (some false)) = some r := H
  have A3 := Aside0.mk A30
  clear A30
  by_cases c4 : t231 = true
  · subst c4
    have H1 : (if a1_0 = 0 then ((impl_within.f a1_1 1 a0).bind fun t232 => (if t232 = true then ((impl_within.f a1_2 0 1).bind fun t233 => (some t233)) else (some false))) else (if a1_0 = 1 then ((impl_within.f a1_1 2 9).bind fun t234 => (if t234 = true then ((impl_within.f a1_2 0 (wrap64 (a1_1 - 1))).bind fun t235 => (some t235)) else (some false))) else (if a1_0 = 2 then ((impl_isEggs.f a1_1).bind fun t236 => (if t236 = true then ((impl_within.f a1_2 0 40).bind fun t237 => (some t237)) else (some false))) else (if a1_0 = 3 then ((impl_isEggs.f a1_1).bind fun t238 => (if t238 = true then ((impl_within.f a1_2 0 10).bind fun t239 => (some t239)) else (some false))) else (if a1_0 = 4 then ((impl_isBreak.f a0 a1_1).bind fun t240 => (if t240 = true then ((impl_isBreak.f a0 a1_2).bind fun t241 => (some t241)) else (some false))) else (some false)))))) = some r := by rw [if_pos rfl] at H; exact H
    clear H
    have H := H1
    clear H1
    by_cases c5 : a1_0 = 0
    · rw [if_pos c5] at H
      have c5b0 : (a1_0 == 0) = true := beq_iff_eq.mpr c5
      have c5b1 : (a1_0 != 0) = false := bne_eq_false_iff_eq.mpr c5
      clear c5
      replace H := Option.bind_eq_some_iff.mp H
      obtain ⟨t232, A60, H⟩ := H
      replace H : (if t232 = true then ((impl_within.f a1_2 0 1).bind fun t233 => (some t233)) else (some false)) = some r := H
      have A6 := Aside0.mk A60
      clear A60
      by_cases c7 : t232 = true
      · subst c7
        have H1 : ((impl_within.f a1_2 0 1).bind fun t233 => (some t233)) = some r := by rw [if_pos rfl] at H; exact H
        clear H
        have H := H1
        clear H1
        replace H := Option.bind_eq_some_iff.mp H
        obtain ⟨t233, A80, H⟩ := H
        replace H : (some t233) = some r := H
        have A8 := Aside0.mk A80
        clear A80
        obtain rfl := Option.some.inj H
        go_enter Try.func21, Try.ntmps21
        go_wp2_with (first | ((with_reducible refine gate_dst (N := 3) rfl ?_); refine box_event ?hg (N := 3) ?hd (cs := #[.int .i64 a1_0, .int .i64 a1_1, .int .i64 a1_2]) (t := 25) ?hr ?_; (case hd => rfl); (case hg => rfl); (case hr => first | (go_simp; done) | (go_simp; rfl)); intro gb230 hg w9 hbox hb; have n0_ := Aside0.mk (below_step (by repeat (first | (with_reducible first | exact HB.out | apply below_alloc | apply pw_below_drewN | apply below_drew1) | exact HB.out)) hb); have n1_ := Aside0.mk (hbox); have n2_ := Aside0.mk ((by rw [hg]; exact (below_size (by repeat (first | (with_reducible first | exact HB.out | apply below_alloc | apply pw_below_drewN | apply below_drew1) | exact HB.out))) : w.heap.size ≤ gb230)); have n3_ := Aside0.mk ((by rw [hg]; exact (below_size (by repeat (first | (with_reducible first | exact HB.out | apply below_alloc | apply pw_below_drewN | apply below_drew1) | exact HB.out))) : w.heap.size ≤ gb230)); clear HB; have HB := n0_; have BK230 := n1_; have GW230 := n2_; have GE230 := n3_; clear n0_ n1_ n2_ n3_; clear hb hbox hg) | ((with_reducible refine gate_callee (f := 74) rfl ?_); refine goesL_ (some 6) rfl rfl Try.func74 (by kernel_rfl) rfl #[.int .i64 a0] rfl (by (try simp only [List.map_toArray, List.map_cons, List.map_nil]); first | done | rfl | (simp only [List.length_drop, List.length_take]; rfl)) ?_; (with_reducible refine (impl_isHiddenHouse.calls a0 true _ A3.out).mono ?_); rintro e w' ⟨rfl, ⟨nd, rfl⟩⟩; refine ⟨_, rfl, ?_⟩; have hcz10_0 : w9.cell? ⟨gb230, 0, none⟩ = some (.int .i64 a1_0) := (blk_cell BK230.out 0).trans rfl; have hcz10_1 : w9.cell? ⟨gb230, 1, none⟩ = some (.int .i64 a1_1) := (blk_cell BK230.out 1).trans rfl; have hcz10_2 : w9.cell? ⟨gb230, 2, none⟩ = some (.int .i64 a1_2) := (blk_cell BK230.out 2).trans rfl; have hfz10_0 := blk_frozen BK230.out 0; have hfz10_1 := blk_frozen BK230.out 1; have hfz10_2 := blk_frozen BK230.out 2) | ((with_reducible refine gate_callee (f := 75) rfl ?_); refine goesL_ (some 15) rfl rfl Try.func75 (by kernel_rfl) rfl #[.int .i64 a1_1, .int .i64 1, .int .i64 a0] rfl (by (try simp only [List.map_toArray, List.map_cons, List.map_nil]); first | done | rfl | (simp only [List.length_drop, List.length_take]; rfl)) ?_; (with_reducible refine (impl_within.calls a1_1 1 a0 true _ A6.out).mono ?_); rintro e w' ⟨rfl, ⟨nd, rfl⟩⟩; refine ⟨_, rfl, ?_⟩) | (go_at_call 75; (with_reducible refine (impl_within.calls a1_2 0 1 t233 _ A8.out).mono ?_); rintro e w' ⟨rfl, ⟨nd, rfl⟩⟩))
        go_ret
        exact ⟨by first | rfl | (simp [errW_none, errW_some] <;> rfl) | (simp [*, errW_none, errW_some] <;> rfl), by repeat (first | (with_reducible first | exact HB.out | apply below_alloc | apply pw_below_drewN | apply below_drew1 | refine below_set ?_ GE230.out) | exact HB.out)⟩
      · replace c7 := Bool.eq_false_iff.mpr c7
        subst c7
        have H1 : (some false) = some r := by rw [if_neg (show ¬ (false = true) by decide)] at H; exact H
        clear H
        have H := H1
        clear H1
        obtain rfl := Option.some.inj H
        go_enter Try.func21, Try.ntmps21
        go_wp2_with (first | ((with_reducible refine gate_dst (N := 3) rfl ?_); refine box_event ?hg (N := 3) ?hd (cs := #[.int .i64 a1_0, .int .i64 a1_1, .int .i64 a1_2]) (t := 25) ?hr ?_; (case hd => rfl); (case hg => rfl); (case hr => first | (go_simp; done) | (go_simp; rfl)); intro gb230 hg w11 hbox hb; have n0_ := Aside0.mk (below_step (by repeat (first | (with_reducible first | exact HB.out | apply below_alloc | apply pw_below_drewN | apply below_drew1) | exact HB.out)) hb); have n1_ := Aside0.mk (hbox); have n2_ := Aside0.mk ((by rw [hg]; exact (below_size (by repeat (first | (with_reducible first | exact HB.out | apply below_alloc | apply pw_below_drewN | apply below_drew1) | exact HB.out))) : w.heap.size ≤ gb230)); have n3_ := Aside0.mk ((by rw [hg]; exact (below_size (by repeat (first | (with_reducible first | exact HB.out | apply below_alloc | apply pw_below_drewN | apply below_drew1) | exact HB.out))) : w.heap.size ≤ gb230)); clear HB; have HB := n0_; have BK230 := n1_; have GW230 := n2_; have GE230 := n3_; clear n0_ n1_ n2_ n3_; clear hb hbox hg) | ((with_reducible refine gate_callee (f := 74) rfl ?_); refine goesL_ (some 6) rfl rfl Try.func74 (by kernel_rfl) rfl #[.int .i64 a0] rfl (by (try simp only [List.map_toArray, List.map_cons, List.map_nil]); first | done | rfl | (simp only [List.length_drop, List.length_take]; rfl)) ?_; (with_reducible refine (impl_isHiddenHouse.calls a0 true _ A3.out).mono ?_); rintro e w' ⟨rfl, ⟨nd, rfl⟩⟩; refine ⟨_, rfl, ?_⟩; have hcz12_0 : w11.cell? ⟨gb230, 0, none⟩ = some (.int .i64 a1_0) := (blk_cell BK230.out 0).trans rfl; have hcz12_1 : w11.cell? ⟨gb230, 1, none⟩ = some (.int .i64 a1_1) := (blk_cell BK230.out 1).trans rfl; have hcz12_2 : w11.cell? ⟨gb230, 2, none⟩ = some (.int .i64 a1_2) := (blk_cell BK230.out 2).trans rfl; have hfz12_0 := blk_frozen BK230.out 0; have hfz12_1 := blk_frozen BK230.out 1; have hfz12_2 := blk_frozen BK230.out 2) | ((with_reducible refine gate_callee (f := 75) rfl ?_); refine goesL_ (some 15) rfl rfl Try.func75 (by kernel_rfl) rfl #[.int .i64 a1_1, .int .i64 1, .int .i64 a0] rfl (by (try simp only [List.map_toArray, List.map_cons, List.map_nil]); first | done | rfl | (simp only [List.length_drop, List.length_take]; rfl)) ?_; (with_reducible refine (impl_within.calls a1_1 1 a0 false _ A6.out).mono ?_); rintro e w' ⟨rfl, ⟨nd, rfl⟩⟩; refine ⟨_, rfl, ?_⟩))
        go_ret
        exact ⟨by first | rfl | (simp [errW_none, errW_some] <;> rfl) | (simp [*, errW_none, errW_some] <;> rfl), by repeat (first | (with_reducible first | exact HB.out | apply below_alloc | apply pw_below_drewN | apply below_drew1 | refine below_set ?_ GE230.out) | exact HB.out)⟩
    · rw [if_neg c5] at H
      have c5b0 : (a1_0 == 0) = false := beq_eq_false_iff_ne.mpr c5
      have c5b1 : (a1_0 != 0) = true := bne_iff_ne.mpr c5
      by_cases c13 : a1_0 = 1
      · rw [if_pos c13] at H
        have c13b0 : (a1_0 == 1) = true := beq_iff_eq.mpr c13
        have c13b1 : (a1_0 != 1) = false := bne_eq_false_iff_eq.mpr c13
        clear c13
        replace H := Option.bind_eq_some_iff.mp H
        obtain ⟨t234, A140, H⟩ := H
        replace H : (if t234 = true then ((impl_within.f a1_2 0 (wrap64 (a1_1 - 1))).bind fun t235 => (some t235)) else (some false)) = some r := H
        have A14 := Aside0.mk A140
        clear A140
        by_cases c15 : t234 = true
        · subst c15
          have H1 : ((impl_within.f a1_2 0 (wrap64 (a1_1 - 1))).bind fun t235 => (some t235)) = some r := by rw [if_pos rfl] at H; exact H
          clear H
          have H := H1
          clear H1
          replace H := Option.bind_eq_some_iff.mp H
          obtain ⟨t235, A160, H⟩ := H
          replace H : (some t235) = some r := H
          have A16 := Aside0.mk A160
          clear A160
          obtain rfl := Option.some.inj H
          go_enter Try.func21, Try.ntmps21
          go_wp2_with (first | ((with_reducible refine gate_dst (N := 3) rfl ?_); refine box_event ?hg (N := 3) ?hd (cs := #[.int .i64 a1_0, .int .i64 a1_1, .int .i64 a1_2]) (t := 25) ?hr ?_; (case hd => rfl); (case hg => rfl); (case hr => first | (go_simp; done) | (go_simp; rfl)); intro gb230 hg w17 hbox hb; have n0_ := Aside0.mk (below_step (by repeat (first | (with_reducible first | exact HB.out | apply below_alloc | apply pw_below_drewN | apply below_drew1) | exact HB.out)) hb); have n1_ := Aside0.mk (hbox); have n2_ := Aside0.mk ((by rw [hg]; exact (below_size (by repeat (first | (with_reducible first | exact HB.out | apply below_alloc | apply pw_below_drewN | apply below_drew1) | exact HB.out))) : w.heap.size ≤ gb230)); have n3_ := Aside0.mk ((by rw [hg]; exact (below_size (by repeat (first | (with_reducible first | exact HB.out | apply below_alloc | apply pw_below_drewN | apply below_drew1) | exact HB.out))) : w.heap.size ≤ gb230)); clear HB; have HB := n0_; have BK230 := n1_; have GW230 := n2_; have GE230 := n3_; clear n0_ n1_ n2_ n3_; clear hb hbox hg) | ((with_reducible refine gate_callee (f := 74) rfl ?_); refine goesL_ (some 6) rfl rfl Try.func74 (by kernel_rfl) rfl #[.int .i64 a0] rfl (by (try simp only [List.map_toArray, List.map_cons, List.map_nil]); first | done | rfl | (simp only [List.length_drop, List.length_take]; rfl)) ?_; (with_reducible refine (impl_isHiddenHouse.calls a0 true _ A3.out).mono ?_); rintro e w' ⟨rfl, ⟨nd, rfl⟩⟩; refine ⟨_, rfl, ?_⟩; have hcz18_0 : w17.cell? ⟨gb230, 0, none⟩ = some (.int .i64 a1_0) := (blk_cell BK230.out 0).trans rfl; have hcz18_1 : w17.cell? ⟨gb230, 1, none⟩ = some (.int .i64 a1_1) := (blk_cell BK230.out 1).trans rfl; have hcz18_2 : w17.cell? ⟨gb230, 2, none⟩ = some (.int .i64 a1_2) := (blk_cell BK230.out 2).trans rfl; have hfz18_0 := blk_frozen BK230.out 0; have hfz18_1 := blk_frozen BK230.out 1; have hfz18_2 := blk_frozen BK230.out 2) | ((with_reducible refine gate_callee (f := 75) rfl ?_); refine goesL_ (some 25) rfl rfl Try.func75 (by kernel_rfl) rfl #[.int .i64 a1_1, .int .i64 2, .int .i64 9] rfl (by (try simp only [List.map_toArray, List.map_cons, List.map_nil]); first | done | rfl | (simp only [List.length_drop, List.length_take]; rfl)) ?_; (with_reducible refine (impl_within.calls a1_1 2 9 true _ A14.out).mono ?_); rintro e w' ⟨rfl, ⟨nd, rfl⟩⟩; refine ⟨_, rfl, ?_⟩) | (go_at_call 75; (with_reducible refine (impl_within.calls a1_2 0 (wrap64 (a1_1 - 1)) t235 _ A16.out).mono ?_); rintro e w' ⟨rfl, ⟨nd, rfl⟩⟩))
          go_ret
          exact ⟨by first | rfl | (simp [errW_none, errW_some] <;> rfl) | (simp [*, errW_none, errW_some] <;> rfl), by repeat (first | (with_reducible first | exact HB.out | apply below_alloc | apply pw_below_drewN | apply below_drew1 | refine below_set ?_ GE230.out) | exact HB.out)⟩
        · replace c15 := Bool.eq_false_iff.mpr c15
          subst c15
          have H1 : (some false) = some r := by rw [if_neg (show ¬ (false = true) by decide)] at H; exact H
          clear H
          have H := H1
          clear H1
          obtain rfl := Option.some.inj H
          go_enter Try.func21, Try.ntmps21
          go_wp2_with (first | ((with_reducible refine gate_dst (N := 3) rfl ?_); refine box_event ?hg (N := 3) ?hd (cs := #[.int .i64 a1_0, .int .i64 a1_1, .int .i64 a1_2]) (t := 25) ?hr ?_; (case hd => rfl); (case hg => rfl); (case hr => first | (go_simp; done) | (go_simp; rfl)); intro gb230 hg w19 hbox hb; have n0_ := Aside0.mk (below_step (by repeat (first | (with_reducible first | exact HB.out | apply below_alloc | apply pw_below_drewN | apply below_drew1) | exact HB.out)) hb); have n1_ := Aside0.mk (hbox); have n2_ := Aside0.mk ((by rw [hg]; exact (below_size (by repeat (first | (with_reducible first | exact HB.out | apply below_alloc | apply pw_below_drewN | apply below_drew1) | exact HB.out))) : w.heap.size ≤ gb230)); have n3_ := Aside0.mk ((by rw [hg]; exact (below_size (by repeat (first | (with_reducible first | exact HB.out | apply below_alloc | apply pw_below_drewN | apply below_drew1) | exact HB.out))) : w.heap.size ≤ gb230)); clear HB; have HB := n0_; have BK230 := n1_; have GW230 := n2_; have GE230 := n3_; clear n0_ n1_ n2_ n3_; clear hb hbox hg) | ((with_reducible refine gate_callee (f := 74) rfl ?_); refine goesL_ (some 6) rfl rfl Try.func74 (by kernel_rfl) rfl #[.int .i64 a0] rfl (by (try simp only [List.map_toArray, List.map_cons, List.map_nil]); first | done | rfl | (simp only [List.length_drop, List.length_take]; rfl)) ?_; (with_reducible refine (impl_isHiddenHouse.calls a0 true _ A3.out).mono ?_); rintro e w' ⟨rfl, ⟨nd, rfl⟩⟩; refine ⟨_, rfl, ?_⟩; have hcz20_0 : w19.cell? ⟨gb230, 0, none⟩ = some (.int .i64 a1_0) := (blk_cell BK230.out 0).trans rfl; have hcz20_1 : w19.cell? ⟨gb230, 1, none⟩ = some (.int .i64 a1_1) := (blk_cell BK230.out 1).trans rfl; have hcz20_2 : w19.cell? ⟨gb230, 2, none⟩ = some (.int .i64 a1_2) := (blk_cell BK230.out 2).trans rfl; have hfz20_0 := blk_frozen BK230.out 0; have hfz20_1 := blk_frozen BK230.out 1; have hfz20_2 := blk_frozen BK230.out 2) | ((with_reducible refine gate_callee (f := 75) rfl ?_); refine goesL_ (some 25) rfl rfl Try.func75 (by kernel_rfl) rfl #[.int .i64 a1_1, .int .i64 2, .int .i64 9] rfl (by (try simp only [List.map_toArray, List.map_cons, List.map_nil]); first | done | rfl | (simp only [List.length_drop, List.length_take]; rfl)) ?_; (with_reducible refine (impl_within.calls a1_1 2 9 false _ A14.out).mono ?_); rintro e w' ⟨rfl, ⟨nd, rfl⟩⟩; refine ⟨_, rfl, ?_⟩))
          go_ret
          exact ⟨by first | rfl | (simp [errW_none, errW_some] <;> rfl) | (simp [*, errW_none, errW_some] <;> rfl), by repeat (first | (with_reducible first | exact HB.out | apply below_alloc | apply pw_below_drewN | apply below_drew1 | refine below_set ?_ GE230.out) | exact HB.out)⟩
      · rw [if_neg c13] at H
        have c13b0 : (a1_0 == 1) = false := beq_eq_false_iff_ne.mpr c13
        have c13b1 : (a1_0 != 1) = true := bne_iff_ne.mpr c13
        by_cases c21 : a1_0 = 2
        · rw [if_pos c21] at H
          have c21b0 : (a1_0 == 2) = true := beq_iff_eq.mpr c21
          have c21b1 : (a1_0 != 2) = false := bne_eq_false_iff_eq.mpr c21
          clear c21
          replace H := Option.bind_eq_some_iff.mp H
          obtain ⟨t236, A220, H⟩ := H
          replace H : (if t236 = true then ((impl_within.f a1_2 0 40).bind fun t237 => (some t237)) else (some false)) = some r := H
          have A22 := Aside0.mk A220
          clear A220
          by_cases c23 : t236 = true
          · subst c23
            have H1 : ((impl_within.f a1_2 0 40).bind fun t237 => (some t237)) = some r := by rw [if_pos rfl] at H; exact H
            clear H
            have H := H1
            clear H1
            replace H := Option.bind_eq_some_iff.mp H
            obtain ⟨t237, A240, H⟩ := H
            replace H : (some t237) = some r := H
            have A24 := Aside0.mk A240
            clear A240
            obtain rfl := Option.some.inj H
            go_enter Try.func21, Try.ntmps21
            go_wp2_with (first | ((with_reducible refine gate_dst (N := 3) rfl ?_); refine box_event ?hg (N := 3) ?hd (cs := #[.int .i64 a1_0, .int .i64 a1_1, .int .i64 a1_2]) (t := 25) ?hr ?_; (case hd => rfl); (case hg => rfl); (case hr => first | (go_simp; done) | (go_simp; rfl)); intro gb230 hg w25 hbox hb; have n0_ := Aside0.mk (below_step (by repeat (first | (with_reducible first | exact HB.out | apply below_alloc | apply pw_below_drewN | apply below_drew1) | exact HB.out)) hb); have n1_ := Aside0.mk (hbox); have n2_ := Aside0.mk ((by rw [hg]; exact (below_size (by repeat (first | (with_reducible first | exact HB.out | apply below_alloc | apply pw_below_drewN | apply below_drew1) | exact HB.out))) : w.heap.size ≤ gb230)); have n3_ := Aside0.mk ((by rw [hg]; exact (below_size (by repeat (first | (with_reducible first | exact HB.out | apply below_alloc | apply pw_below_drewN | apply below_drew1) | exact HB.out))) : w.heap.size ≤ gb230)); clear HB; have HB := n0_; have BK230 := n1_; have GW230 := n2_; have GE230 := n3_; clear n0_ n1_ n2_ n3_; clear hb hbox hg) | ((with_reducible refine gate_callee (f := 74) rfl ?_); refine goesL_ (some 6) rfl rfl Try.func74 (by kernel_rfl) rfl #[.int .i64 a0] rfl (by (try simp only [List.map_toArray, List.map_cons, List.map_nil]); first | done | rfl | (simp only [List.length_drop, List.length_take]; rfl)) ?_; (with_reducible refine (impl_isHiddenHouse.calls a0 true _ A3.out).mono ?_); rintro e w' ⟨rfl, ⟨nd, rfl⟩⟩; refine ⟨_, rfl, ?_⟩; have hcz26_0 : w25.cell? ⟨gb230, 0, none⟩ = some (.int .i64 a1_0) := (blk_cell BK230.out 0).trans rfl; have hcz26_1 : w25.cell? ⟨gb230, 1, none⟩ = some (.int .i64 a1_1) := (blk_cell BK230.out 1).trans rfl; have hcz26_2 : w25.cell? ⟨gb230, 2, none⟩ = some (.int .i64 a1_2) := (blk_cell BK230.out 2).trans rfl; have hfz26_0 := blk_frozen BK230.out 0; have hfz26_1 := blk_frozen BK230.out 1; have hfz26_2 := blk_frozen BK230.out 2) | ((with_reducible refine gate_callee (f := 76) rfl ?_); refine goesL_ (some 38) rfl rfl Try.func76 (by kernel_rfl) rfl #[.int .i64 a1_1] rfl (by (try simp only [List.map_toArray, List.map_cons, List.map_nil]); first | done | rfl | (simp only [List.length_drop, List.length_take]; rfl)) ?_; (with_reducible refine (impl_isEggs.calls a1_1 true _ A22.out).mono ?_); rintro e w' ⟨rfl, ⟨nd, rfl⟩⟩; refine ⟨_, rfl, ?_⟩) | (go_at_call 75; (with_reducible refine (impl_within.calls a1_2 0 40 t237 _ A24.out).mono ?_); rintro e w' ⟨rfl, ⟨nd, rfl⟩⟩))
            go_ret
            exact ⟨by first | rfl | (simp [errW_none, errW_some] <;> rfl) | (simp [*, errW_none, errW_some] <;> rfl), by repeat (first | (with_reducible first | exact HB.out | apply below_alloc | apply pw_below_drewN | apply below_drew1 | refine below_set ?_ GE230.out) | exact HB.out)⟩
          · replace c23 := Bool.eq_false_iff.mpr c23
            subst c23
            have H1 : (some false) = some r := by rw [if_neg (show ¬ (false = true) by decide)] at H; exact H
            clear H
            have H := H1
            clear H1
            obtain rfl := Option.some.inj H
            go_enter Try.func21, Try.ntmps21
            go_wp2_with (first | ((with_reducible refine gate_dst (N := 3) rfl ?_); refine box_event ?hg (N := 3) ?hd (cs := #[.int .i64 a1_0, .int .i64 a1_1, .int .i64 a1_2]) (t := 25) ?hr ?_; (case hd => rfl); (case hg => rfl); (case hr => first | (go_simp; done) | (go_simp; rfl)); intro gb230 hg w27 hbox hb; have n0_ := Aside0.mk (below_step (by repeat (first | (with_reducible first | exact HB.out | apply below_alloc | apply pw_below_drewN | apply below_drew1) | exact HB.out)) hb); have n1_ := Aside0.mk (hbox); have n2_ := Aside0.mk ((by rw [hg]; exact (below_size (by repeat (first | (with_reducible first | exact HB.out | apply below_alloc | apply pw_below_drewN | apply below_drew1) | exact HB.out))) : w.heap.size ≤ gb230)); have n3_ := Aside0.mk ((by rw [hg]; exact (below_size (by repeat (first | (with_reducible first | exact HB.out | apply below_alloc | apply pw_below_drewN | apply below_drew1) | exact HB.out))) : w.heap.size ≤ gb230)); clear HB; have HB := n0_; have BK230 := n1_; have GW230 := n2_; have GE230 := n3_; clear n0_ n1_ n2_ n3_; clear hb hbox hg) | ((with_reducible refine gate_callee (f := 74) rfl ?_); refine goesL_ (some 6) rfl rfl Try.func74 (by kernel_rfl) rfl #[.int .i64 a0] rfl (by (try simp only [List.map_toArray, List.map_cons, List.map_nil]); first | done | rfl | (simp only [List.length_drop, List.length_take]; rfl)) ?_; (with_reducible refine (impl_isHiddenHouse.calls a0 true _ A3.out).mono ?_); rintro e w' ⟨rfl, ⟨nd, rfl⟩⟩; refine ⟨_, rfl, ?_⟩; have hcz28_0 : w27.cell? ⟨gb230, 0, none⟩ = some (.int .i64 a1_0) := (blk_cell BK230.out 0).trans rfl; have hcz28_1 : w27.cell? ⟨gb230, 1, none⟩ = some (.int .i64 a1_1) := (blk_cell BK230.out 1).trans rfl; have hcz28_2 : w27.cell? ⟨gb230, 2, none⟩ = some (.int .i64 a1_2) := (blk_cell BK230.out 2).trans rfl; have hfz28_0 := blk_frozen BK230.out 0; have hfz28_1 := blk_frozen BK230.out 1; have hfz28_2 := blk_frozen BK230.out 2) | ((with_reducible refine gate_callee (f := 76) rfl ?_); refine goesL_ (some 38) rfl rfl Try.func76 (by kernel_rfl) rfl #[.int .i64 a1_1] rfl (by (try simp only [List.map_toArray, List.map_cons, List.map_nil]); first | done | rfl | (simp only [List.length_drop, List.length_take]; rfl)) ?_; (with_reducible refine (impl_isEggs.calls a1_1 false _ A22.out).mono ?_); rintro e w' ⟨rfl, ⟨nd, rfl⟩⟩; refine ⟨_, rfl, ?_⟩))
            go_ret
            exact ⟨by first | rfl | (simp [errW_none, errW_some] <;> rfl) | (simp [*, errW_none, errW_some] <;> rfl), by repeat (first | (with_reducible first | exact HB.out | apply below_alloc | apply pw_below_drewN | apply below_drew1 | refine below_set ?_ GE230.out) | exact HB.out)⟩
        · rw [if_neg c21] at H
          have c21b0 : (a1_0 == 2) = false := beq_eq_false_iff_ne.mpr c21
          have c21b1 : (a1_0 != 2) = true := bne_iff_ne.mpr c21
          by_cases c29 : a1_0 = 3
          · rw [if_pos c29] at H
            have c29b0 : (a1_0 == 3) = true := beq_iff_eq.mpr c29
            have c29b1 : (a1_0 != 3) = false := bne_eq_false_iff_eq.mpr c29
            clear c29
            replace H := Option.bind_eq_some_iff.mp H
            obtain ⟨t238, A300, H⟩ := H
            replace H : (if t238 = true then ((impl_within.f a1_2 0 10).bind fun t239 => (some t239)) else (some false)) = some r := H
            have A30 := Aside0.mk A300
            clear A300
            by_cases c31 : t238 = true
            · subst c31
              have H1 : ((impl_within.f a1_2 0 10).bind fun t239 => (some t239)) = some r := by rw [if_pos rfl] at H; exact H
              clear H
              have H := H1
              clear H1
              replace H := Option.bind_eq_some_iff.mp H
              obtain ⟨t239, A320, H⟩ := H
              replace H : (some t239) = some r := H
              have A32 := Aside0.mk A320
              clear A320
              obtain rfl := Option.some.inj H
              go_enter Try.func21, Try.ntmps21
              go_wp2_with (first | ((with_reducible refine gate_dst (N := 3) rfl ?_); refine box_event ?hg (N := 3) ?hd (cs := #[.int .i64 a1_0, .int .i64 a1_1, .int .i64 a1_2]) (t := 25) ?hr ?_; (case hd => rfl); (case hg => rfl); (case hr => first | (go_simp; done) | (go_simp; rfl)); intro gb230 hg w33 hbox hb; have n0_ := Aside0.mk (below_step (by repeat (first | (with_reducible first | exact HB.out | apply below_alloc | apply pw_below_drewN | apply below_drew1) | exact HB.out)) hb); have n1_ := Aside0.mk (hbox); have n2_ := Aside0.mk ((by rw [hg]; exact (below_size (by repeat (first | (with_reducible first | exact HB.out | apply below_alloc | apply pw_below_drewN | apply below_drew1) | exact HB.out))) : w.heap.size ≤ gb230)); have n3_ := Aside0.mk ((by rw [hg]; exact (below_size (by repeat (first | (with_reducible first | exact HB.out | apply below_alloc | apply pw_below_drewN | apply below_drew1) | exact HB.out))) : w.heap.size ≤ gb230)); clear HB; have HB := n0_; have BK230 := n1_; have GW230 := n2_; have GE230 := n3_; clear n0_ n1_ n2_ n3_; clear hb hbox hg) | ((with_reducible refine gate_callee (f := 74) rfl ?_); refine goesL_ (some 6) rfl rfl Try.func74 (by kernel_rfl) rfl #[.int .i64 a0] rfl (by (try simp only [List.map_toArray, List.map_cons, List.map_nil]); first | done | rfl | (simp only [List.length_drop, List.length_take]; rfl)) ?_; (with_reducible refine (impl_isHiddenHouse.calls a0 true _ A3.out).mono ?_); rintro e w' ⟨rfl, ⟨nd, rfl⟩⟩; refine ⟨_, rfl, ?_⟩; have hcz34_0 : w33.cell? ⟨gb230, 0, none⟩ = some (.int .i64 a1_0) := (blk_cell BK230.out 0).trans rfl; have hcz34_1 : w33.cell? ⟨gb230, 1, none⟩ = some (.int .i64 a1_1) := (blk_cell BK230.out 1).trans rfl; have hcz34_2 : w33.cell? ⟨gb230, 2, none⟩ = some (.int .i64 a1_2) := (blk_cell BK230.out 2).trans rfl; have hfz34_0 := blk_frozen BK230.out 0; have hfz34_1 := blk_frozen BK230.out 1; have hfz34_2 := blk_frozen BK230.out 2) | ((with_reducible refine gate_callee (f := 76) rfl ?_); refine goesL_ (some 48) rfl rfl Try.func76 (by kernel_rfl) rfl #[.int .i64 a1_1] rfl (by (try simp only [List.map_toArray, List.map_cons, List.map_nil]); first | done | rfl | (simp only [List.length_drop, List.length_take]; rfl)) ?_; (with_reducible refine (impl_isEggs.calls a1_1 true _ A30.out).mono ?_); rintro e w' ⟨rfl, ⟨nd, rfl⟩⟩; refine ⟨_, rfl, ?_⟩) | (go_at_call 75; (with_reducible refine (impl_within.calls a1_2 0 10 t239 _ A32.out).mono ?_); rintro e w' ⟨rfl, ⟨nd, rfl⟩⟩))
              go_ret
              exact ⟨by first | rfl | (simp [errW_none, errW_some] <;> rfl) | (simp [*, errW_none, errW_some] <;> rfl), by repeat (first | (with_reducible first | exact HB.out | apply below_alloc | apply pw_below_drewN | apply below_drew1 | refine below_set ?_ GE230.out) | exact HB.out)⟩
            · replace c31 := Bool.eq_false_iff.mpr c31
              subst c31
              have H1 : (some false) = some r := by rw [if_neg (show ¬ (false = true) by decide)] at H; exact H
              clear H
              have H := H1
              clear H1
              obtain rfl := Option.some.inj H
              go_enter Try.func21, Try.ntmps21
              go_wp2_with (first | ((with_reducible refine gate_dst (N := 3) rfl ?_); refine box_event ?hg (N := 3) ?hd (cs := #[.int .i64 a1_0, .int .i64 a1_1, .int .i64 a1_2]) (t := 25) ?hr ?_; (case hd => rfl); (case hg => rfl); (case hr => first | (go_simp; done) | (go_simp; rfl)); intro gb230 hg w35 hbox hb; have n0_ := Aside0.mk (below_step (by repeat (first | (with_reducible first | exact HB.out | apply below_alloc | apply pw_below_drewN | apply below_drew1) | exact HB.out)) hb); have n1_ := Aside0.mk (hbox); have n2_ := Aside0.mk ((by rw [hg]; exact (below_size (by repeat (first | (with_reducible first | exact HB.out | apply below_alloc | apply pw_below_drewN | apply below_drew1) | exact HB.out))) : w.heap.size ≤ gb230)); have n3_ := Aside0.mk ((by rw [hg]; exact (below_size (by repeat (first | (with_reducible first | exact HB.out | apply below_alloc | apply pw_below_drewN | apply below_drew1) | exact HB.out))) : w.heap.size ≤ gb230)); clear HB; have HB := n0_; have BK230 := n1_; have GW230 := n2_; have GE230 := n3_; clear n0_ n1_ n2_ n3_; clear hb hbox hg) | ((with_reducible refine gate_callee (f := 74) rfl ?_); refine goesL_ (some 6) rfl rfl Try.func74 (by kernel_rfl) rfl #[.int .i64 a0] rfl (by (try simp only [List.map_toArray, List.map_cons, List.map_nil]); first | done | rfl | (simp only [List.length_drop, List.length_take]; rfl)) ?_; (with_reducible refine (impl_isHiddenHouse.calls a0 true _ A3.out).mono ?_); rintro e w' ⟨rfl, ⟨nd, rfl⟩⟩; refine ⟨_, rfl, ?_⟩; have hcz36_0 : w35.cell? ⟨gb230, 0, none⟩ = some (.int .i64 a1_0) := (blk_cell BK230.out 0).trans rfl; have hcz36_1 : w35.cell? ⟨gb230, 1, none⟩ = some (.int .i64 a1_1) := (blk_cell BK230.out 1).trans rfl; have hcz36_2 : w35.cell? ⟨gb230, 2, none⟩ = some (.int .i64 a1_2) := (blk_cell BK230.out 2).trans rfl; have hfz36_0 := blk_frozen BK230.out 0; have hfz36_1 := blk_frozen BK230.out 1; have hfz36_2 := blk_frozen BK230.out 2) | ((with_reducible refine gate_callee (f := 76) rfl ?_); refine goesL_ (some 48) rfl rfl Try.func76 (by kernel_rfl) rfl #[.int .i64 a1_1] rfl (by (try simp only [List.map_toArray, List.map_cons, List.map_nil]); first | done | rfl | (simp only [List.length_drop, List.length_take]; rfl)) ?_; (with_reducible refine (impl_isEggs.calls a1_1 false _ A30.out).mono ?_); rintro e w' ⟨rfl, ⟨nd, rfl⟩⟩; refine ⟨_, rfl, ?_⟩))
              go_ret
              exact ⟨by first | rfl | (simp [errW_none, errW_some] <;> rfl) | (simp [*, errW_none, errW_some] <;> rfl), by repeat (first | (with_reducible first | exact HB.out | apply below_alloc | apply pw_below_drewN | apply below_drew1 | refine below_set ?_ GE230.out) | exact HB.out)⟩
          · rw [if_neg c29] at H
            have c29b0 : (a1_0 == 3) = false := beq_eq_false_iff_ne.mpr c29
            have c29b1 : (a1_0 != 3) = true := bne_iff_ne.mpr c29
            by_cases c37 : a1_0 = 4
            · rw [if_pos c37] at H
              have c37b0 : (a1_0 == 4) = true := beq_iff_eq.mpr c37
              have c37b1 : (a1_0 != 4) = false := bne_eq_false_iff_eq.mpr c37
              clear c37
              replace H := Option.bind_eq_some_iff.mp H
              obtain ⟨t240, A380, H⟩ := H
              replace H : (if t240 = true then ((impl_isBreak.f a0 a1_2).bind fun t241 => (some t241)) else (some false)) = some r := H
              have A38 := Aside0.mk A380
              clear A380
              by_cases c39 : t240 = true
              · subst c39
                have H1 : ((impl_isBreak.f a0 a1_2).bind fun t241 => (some t241)) = some r := by rw [if_pos rfl] at H; exact H
                clear H
                have H := H1
                clear H1
                replace H := Option.bind_eq_some_iff.mp H
                obtain ⟨t241, A400, H⟩ := H
                replace H : (some t241) = some r := H
                have A40 := Aside0.mk A400
                clear A400
                obtain rfl := Option.some.inj H
                go_enter Try.func21, Try.ntmps21
                go_wp2_with (first | ((with_reducible refine gate_dst (N := 3) rfl ?_); refine box_event ?hg (N := 3) ?hd (cs := #[.int .i64 a1_0, .int .i64 a1_1, .int .i64 a1_2]) (t := 25) ?hr ?_; (case hd => rfl); (case hg => rfl); (case hr => first | (go_simp; done) | (go_simp; rfl)); intro gb230 hg w41 hbox hb; have n0_ := Aside0.mk (below_step (by repeat (first | (with_reducible first | exact HB.out | apply below_alloc | apply pw_below_drewN | apply below_drew1) | exact HB.out)) hb); have n1_ := Aside0.mk (hbox); have n2_ := Aside0.mk ((by rw [hg]; exact (below_size (by repeat (first | (with_reducible first | exact HB.out | apply below_alloc | apply pw_below_drewN | apply below_drew1) | exact HB.out))) : w.heap.size ≤ gb230)); have n3_ := Aside0.mk ((by rw [hg]; exact (below_size (by repeat (first | (with_reducible first | exact HB.out | apply below_alloc | apply pw_below_drewN | apply below_drew1) | exact HB.out))) : w.heap.size ≤ gb230)); clear HB; have HB := n0_; have BK230 := n1_; have GW230 := n2_; have GE230 := n3_; clear n0_ n1_ n2_ n3_; clear hb hbox hg) | ((with_reducible refine gate_callee (f := 74) rfl ?_); refine goesL_ (some 6) rfl rfl Try.func74 (by kernel_rfl) rfl #[.int .i64 a0] rfl (by (try simp only [List.map_toArray, List.map_cons, List.map_nil]); first | done | rfl | (simp only [List.length_drop, List.length_take]; rfl)) ?_; (with_reducible refine (impl_isHiddenHouse.calls a0 true _ A3.out).mono ?_); rintro e w' ⟨rfl, ⟨nd, rfl⟩⟩; refine ⟨_, rfl, ?_⟩; have hcz42_0 : w41.cell? ⟨gb230, 0, none⟩ = some (.int .i64 a1_0) := (blk_cell BK230.out 0).trans rfl; have hcz42_1 : w41.cell? ⟨gb230, 1, none⟩ = some (.int .i64 a1_1) := (blk_cell BK230.out 1).trans rfl; have hcz42_2 : w41.cell? ⟨gb230, 2, none⟩ = some (.int .i64 a1_2) := (blk_cell BK230.out 2).trans rfl; have hfz42_0 := blk_frozen BK230.out 0; have hfz42_1 := blk_frozen BK230.out 1; have hfz42_2 := blk_frozen BK230.out 2) | ((with_reducible refine gate_callee (f := 77) rfl ?_); refine goesL_ (some 59) rfl rfl Try.func77 (by kernel_rfl) rfl #[.int .i64 a0, .int .i64 a1_1] rfl (by (try simp only [List.map_toArray, List.map_cons, List.map_nil]); first | done | rfl | (simp only [List.length_drop, List.length_take]; rfl)) ?_; (with_reducible refine (impl_isBreak.calls a0 a1_1 true _ A38.out).mono ?_); rintro e w' ⟨rfl, ⟨nd, rfl⟩⟩; refine ⟨_, rfl, ?_⟩) | (go_at_call 77; (with_reducible refine (impl_isBreak.calls a0 a1_2 t241 _ A40.out).mono ?_); rintro e w' ⟨rfl, ⟨nd, rfl⟩⟩))
                go_ret
                exact ⟨by first | rfl | (simp [errW_none, errW_some] <;> rfl) | (simp [*, errW_none, errW_some] <;> rfl), by repeat (first | (with_reducible first | exact HB.out | apply below_alloc | apply pw_below_drewN | apply below_drew1 | refine below_set ?_ GE230.out) | exact HB.out)⟩
              · replace c39 := Bool.eq_false_iff.mpr c39
                subst c39
                have H1 : (some false) = some r := by rw [if_neg (show ¬ (false = true) by decide)] at H; exact H
                clear H
                have H := H1
                clear H1
                obtain rfl := Option.some.inj H
                go_enter Try.func21, Try.ntmps21
                go_wp2_with (first | ((with_reducible refine gate_dst (N := 3) rfl ?_); refine box_event ?hg (N := 3) ?hd (cs := #[.int .i64 a1_0, .int .i64 a1_1, .int .i64 a1_2]) (t := 25) ?hr ?_; (case hd => rfl); (case hg => rfl); (case hr => first | (go_simp; done) | (go_simp; rfl)); intro gb230 hg w43 hbox hb; have n0_ := Aside0.mk (below_step (by repeat (first | (with_reducible first | exact HB.out | apply below_alloc | apply pw_below_drewN | apply below_drew1) | exact HB.out)) hb); have n1_ := Aside0.mk (hbox); have n2_ := Aside0.mk ((by rw [hg]; exact (below_size (by repeat (first | (with_reducible first | exact HB.out | apply below_alloc | apply pw_below_drewN | apply below_drew1) | exact HB.out))) : w.heap.size ≤ gb230)); have n3_ := Aside0.mk ((by rw [hg]; exact (below_size (by repeat (first | (with_reducible first | exact HB.out | apply below_alloc | apply pw_below_drewN | apply below_drew1) | exact HB.out))) : w.heap.size ≤ gb230)); clear HB; have HB := n0_; have BK230 := n1_; have GW230 := n2_; have GE230 := n3_; clear n0_ n1_ n2_ n3_; clear hb hbox hg) | ((with_reducible refine gate_callee (f := 74) rfl ?_); refine goesL_ (some 6) rfl rfl Try.func74 (by kernel_rfl) rfl #[.int .i64 a0] rfl (by (try simp only [List.map_toArray, List.map_cons, List.map_nil]); first | done | rfl | (simp only [List.length_drop, List.length_take]; rfl)) ?_; (with_reducible refine (impl_isHiddenHouse.calls a0 true _ A3.out).mono ?_); rintro e w' ⟨rfl, ⟨nd, rfl⟩⟩; refine ⟨_, rfl, ?_⟩; have hcz44_0 : w43.cell? ⟨gb230, 0, none⟩ = some (.int .i64 a1_0) := (blk_cell BK230.out 0).trans rfl; have hcz44_1 : w43.cell? ⟨gb230, 1, none⟩ = some (.int .i64 a1_1) := (blk_cell BK230.out 1).trans rfl; have hcz44_2 : w43.cell? ⟨gb230, 2, none⟩ = some (.int .i64 a1_2) := (blk_cell BK230.out 2).trans rfl; have hfz44_0 := blk_frozen BK230.out 0; have hfz44_1 := blk_frozen BK230.out 1; have hfz44_2 := blk_frozen BK230.out 2) | ((with_reducible refine gate_callee (f := 77) rfl ?_); refine goesL_ (some 59) rfl rfl Try.func77 (by kernel_rfl) rfl #[.int .i64 a0, .int .i64 a1_1] rfl (by (try simp only [List.map_toArray, List.map_cons, List.map_nil]); first | done | rfl | (simp only [List.length_drop, List.length_take]; rfl)) ?_; (with_reducible refine (impl_isBreak.calls a0 a1_1 false _ A38.out).mono ?_); rintro e w' ⟨rfl, ⟨nd, rfl⟩⟩; refine ⟨_, rfl, ?_⟩))
                go_ret
                exact ⟨by first | rfl | (simp [errW_none, errW_some] <;> rfl) | (simp [*, errW_none, errW_some] <;> rfl), by repeat (first | (with_reducible first | exact HB.out | apply below_alloc | apply pw_below_drewN | apply below_drew1 | refine below_set ?_ GE230.out) | exact HB.out)⟩
            · rw [if_neg c37] at H
              have c37b0 : (a1_0 == 4) = false := beq_eq_false_iff_ne.mpr c37
              have c37b1 : (a1_0 != 4) = true := bne_iff_ne.mpr c37
              obtain rfl := Option.some.inj H
              go_enter Try.func21, Try.ntmps21
              go_wp2_with (first | ((with_reducible refine gate_dst (N := 3) rfl ?_); refine box_event ?hg (N := 3) ?hd (cs := #[.int .i64 a1_0, .int .i64 a1_1, .int .i64 a1_2]) (t := 25) ?hr ?_; (case hd => rfl); (case hg => rfl); (case hr => first | (go_simp; done) | (go_simp; rfl)); intro gb230 hg w45 hbox hb; have n0_ := Aside0.mk (below_step (by repeat (first | (with_reducible first | exact HB.out | apply below_alloc | apply pw_below_drewN | apply below_drew1) | exact HB.out)) hb); have n1_ := Aside0.mk (hbox); have n2_ := Aside0.mk ((by rw [hg]; exact (below_size (by repeat (first | (with_reducible first | exact HB.out | apply below_alloc | apply pw_below_drewN | apply below_drew1) | exact HB.out))) : w.heap.size ≤ gb230)); have n3_ := Aside0.mk ((by rw [hg]; exact (below_size (by repeat (first | (with_reducible first | exact HB.out | apply below_alloc | apply pw_below_drewN | apply below_drew1) | exact HB.out))) : w.heap.size ≤ gb230)); clear HB; have HB := n0_; have BK230 := n1_; have GW230 := n2_; have GE230 := n3_; clear n0_ n1_ n2_ n3_; clear hb hbox hg) | ((with_reducible refine gate_callee (f := 74) rfl ?_); refine goesL_ (some 6) rfl rfl Try.func74 (by kernel_rfl) rfl #[.int .i64 a0] rfl (by (try simp only [List.map_toArray, List.map_cons, List.map_nil]); first | done | rfl | (simp only [List.length_drop, List.length_take]; rfl)) ?_; (with_reducible refine (impl_isHiddenHouse.calls a0 true _ A3.out).mono ?_); rintro e w' ⟨rfl, ⟨nd, rfl⟩⟩; refine ⟨_, rfl, ?_⟩; have hcz46_0 : w45.cell? ⟨gb230, 0, none⟩ = some (.int .i64 a1_0) := (blk_cell BK230.out 0).trans rfl; have hcz46_1 : w45.cell? ⟨gb230, 1, none⟩ = some (.int .i64 a1_1) := (blk_cell BK230.out 1).trans rfl; have hcz46_2 : w45.cell? ⟨gb230, 2, none⟩ = some (.int .i64 a1_2) := (blk_cell BK230.out 2).trans rfl; have hfz46_0 := blk_frozen BK230.out 0; have hfz46_1 := blk_frozen BK230.out 1; have hfz46_2 := blk_frozen BK230.out 2))
              go_ret
              exact ⟨by first | rfl | (simp [errW_none, errW_some] <;> rfl) | (simp [*, errW_none, errW_some] <;> rfl), by repeat (first | (with_reducible first | exact HB.out | apply below_alloc | apply pw_below_drewN | apply below_drew1 | refine below_set ?_ GE230.out) | exact HB.out)⟩
  · replace c4 := Bool.eq_false_iff.mpr c4
    subst c4
    have H1 : (some false) = some r := by rw [if_neg (show ¬ (false = true) by decide)] at H; exact H
    clear H
    have H := H1
    clear H1
    obtain rfl := Option.some.inj H
    go_enter Try.func21, Try.ntmps21
    go_wp2_with (first | ((with_reducible refine gate_dst (N := 3) rfl ?_); refine box_event ?hg (N := 3) ?hd (cs := #[.int .i64 a1_0, .int .i64 a1_1, .int .i64 a1_2]) (t := 25) ?hr ?_; (case hd => rfl); (case hg => rfl); (case hr => first | (go_simp; done) | (go_simp; rfl)); intro gb230 hg w47 hbox hb; have n0_ := Aside0.mk (below_step (by repeat (first | (with_reducible first | exact HB.out | apply below_alloc | apply pw_below_drewN | apply below_drew1) | exact HB.out)) hb); have n1_ := Aside0.mk (hbox); have n2_ := Aside0.mk ((by rw [hg]; exact (below_size (by repeat (first | (with_reducible first | exact HB.out | apply below_alloc | apply pw_below_drewN | apply below_drew1) | exact HB.out))) : w.heap.size ≤ gb230)); have n3_ := Aside0.mk ((by rw [hg]; exact (below_size (by repeat (first | (with_reducible first | exact HB.out | apply below_alloc | apply pw_below_drewN | apply below_drew1) | exact HB.out))) : w.heap.size ≤ gb230)); clear HB; have HB := n0_; have BK230 := n1_; have GW230 := n2_; have GE230 := n3_; clear n0_ n1_ n2_ n3_; clear hb hbox hg) | ((with_reducible refine gate_callee (f := 74) rfl ?_); refine goesL_ (some 6) rfl rfl Try.func74 (by kernel_rfl) rfl #[.int .i64 a0] rfl (by (try simp only [List.map_toArray, List.map_cons, List.map_nil]); first | done | rfl | (simp only [List.length_drop, List.length_take]; rfl)) ?_; (with_reducible refine (impl_isHiddenHouse.calls a0 false _ A3.out).mono ?_); rintro e w' ⟨rfl, ⟨nd, rfl⟩⟩; refine ⟨_, rfl, ?_⟩))
    go_ret
    exact ⟨by first | rfl | (simp [errW_none, errW_some] <;> rfl) | (simp [*, errW_none, errW_some] <;> rfl), by repeat (first | (with_reducible first | exact HB.out | apply below_alloc | apply pw_below_drewN | apply below_drew1 | refine below_set ?_ GE230.out) | exact HB.out)⟩

-- FOR slices.IndexFunc[[]impl.Clue,impl.Clue]
set_option maxHeartbeats 4000000 in
set_option maxRecDepth 100000 in
theorem idxClue.calls (p : S25 → Bool) (F : Nat) (fn : Func) (cap : Array Value) (A : Option Addr) (c : Nat) (l : List S25) (w : World) (hr : Kd.C k25 w A l.length l)
    (hF : Try.prog.funcs[F]? = some fn) (hname : (fn.name == "runtime.NumGoroutine") = false) (hb : fn.body.isSome = true)
    (hf : ∀ (x : S25) (W : World), x ∈ l → Below w.heap.size w W → Calls Try.prog F (#[.agg #[.int .i64 x.f0, .int .i64 x.f1, .int .i64 x.f2]] ++ cap) W fun e W' => e = .returned (.bool (p x)) ∧ Below W.heap.size W W') :
    Calls Try.prog 114 #[.slice A l.length c, .func (.func F) #[] cap] w fun e w' => e = .returned (.int .i64 (Hw.idxFrom p l 0)) ∧ Below w.heap.size w w' := by
  have hm := Kd.C_max hr
  have HR := Aside0.mk hr
  have HN := Aside0.mk hname
  have HF := Aside0.mk hF
  have HBd := Aside0.mk hb
  have Hf := Aside0.mk hf
  clear hr hname hF hb hf
  go_enter Try.func114, Try.ntmps114
  go_wp2
  go_loopg [8] l.length (fun n v w' => ∃ k : Nat, v = .int .i64 k ∧ Aside0 (k + n = l.length) ∧ Aside0 (Hw.idxFrom p (l.drop k) k = Hw.idxFrom p l 0) ∧ Aside0 (Below w.heap.size w w'))
  case atStart => exact ⟨0, rfl, ⟨by omega⟩, ⟨by simp⟩, ⟨Below.refl _ _⟩⟩
  case round =>
    obtain ⟨k, rfl, HK, HI, HB⟩ := hrel
    have hk := HK.out
    by_cases hlt : k < l.length
    · have h1 : (k : Int) < (l.length : Int) := by omega
      have h2 : decide ((k : Int) < (l.length : Int)) = true := decide_eq_true h1
      obtain ⟨ad, rfl, c0, c1, c2⟩ := at_T25 HR.out k (by omega) (by omega)
      simp only [Int.toNat_natCast] at c0 c1 c2
      replace c0 := (HB.out.cell (World.block_lt_of_cell? w _ c0)).trans c0
      replace c1 := (HB.out.cell (World.block_lt_of_cell? w _ c1)).trans c1
      replace c2 := (HB.out.cell (World.block_lt_of_cell? w _ c2)).trans c2
      have HM : Aside0 (rd_T25 l k ∈ l) := ⟨by simp only [rd_T25, Int.toNat_natCast]; rw [List.getD_eq_getElem?_getD, List.getElem?_eq_getElem hlt]; exact List.getElem_mem _⟩
      clear h1
      go_wp2_with (first | ((with_reducible refine Hw.gateV (t := 11) rfl ?_); go_loud (refine Hw.goesV (some 16) rfl rfl HF.out HN.out HBd.out #[.agg #[.int .i64 (rd_T25 l k).f0, .int .i64 (rd_T25 l k).f1, .int .i64 (rd_T25 l k).f2]] rfl rfl (by simp only [List.map_toArray, List.map_cons, List.map_nil]; rfl) ?_); (refine (Hf.out (rd_T25 l k) _ HM.out HB.out).mono ?_); rintro e w1 ⟨rfl, hb1⟩; refine ⟨_, rfl, ?_⟩))
      · have hp : p (rd_T25 l k) = true := by assumption
        go_ret
        exact ⟨congrArg (fun z => Ending.returned (.int .i64 z)) ((Hw.idx_yes p l k hlt _ hp).symm.trans HI.out), below_step HB.out hb1⟩
      · have hp : p (rd_T25 l k) = false := by assumption
        go_roundg (l.length - (k + 1))
        case measure => omega
        case rel => exact ⟨k + 1, by go_num, ⟨by omega⟩, ⟨(Hw.idx_no p l k hlt _ hp).symm.trans HI.out⟩, ⟨below_step HB.out hb1⟩⟩
    · have h2 : decide ((k : Int) < (l.length : Int)) = false := decide_eq_false (by omega)
      have HS := Aside0.mk (Hw.idxFrom_end p l k (by omega))
      go_wp2
      go_ret
      exact ⟨congrArg (fun z => Ending.returned (.int .i64 z)) (HS.out.symm.trans HI.out), HB.out⟩


-- FOR slices.ContainsFunc[[]impl.Clue,impl.Clue]
set_option maxHeartbeats 4000000 in
set_option maxRecDepth 100000 in
theorem anyClue.calls (p : S25 → Bool) (F : Nat) (fn : Func) (cap : Array Value) (A : Option Addr) (c : Nat) (l : List S25) (w : World) (hr : Kd.C k25 w A l.length l)
    (hF : Try.prog.funcs[F]? = some fn) (hname : (fn.name == "runtime.NumGoroutine") = false) (hb : fn.body.isSome = true)
    (hf : ∀ (x : S25) (W : World), x ∈ l → Below w.heap.size w W → Calls Try.prog F (#[.agg #[.int .i64 x.f0, .int .i64 x.f1, .int .i64 x.f2]] ++ cap) W fun e W' => e = .returned (.bool (p x)) ∧ Below W.heap.size W W') :
    Calls Try.prog 81 #[.slice A l.length c, .func (.func F) #[] cap] w fun e w' => e = .returned (.bool (l.any p)) ∧ Below w.heap.size w w' := by
  have HR := Aside0.mk (idxClue.calls p F fn cap A c l w hr hF hname hb hf)
  have HA := Aside0.mk (Hw.idxFrom_any p l 0 (by omega))
  clear hr hname hF hb hf
  go_enter Try.func81, Try.ntmps81
  go_wp2_with (first | (go_at_call 114; refine HR.out.mono ?_; rintro e w1 ⟨rfl, hb1⟩))
  go_ret
  exact ⟨congrArg (fun z => Ending.returned (.bool z)) HA.out, hb1⟩


-- FOR impl.IsPuzzle
-- KIND rounds=0 making=1
def isClueB (fl : Int) (x : S25) : Bool := (impl_IsClue.f fl x.f0 x.f1 x.f2).getD false
theorem isClue_some (fl a b c : Int) : impl_IsClue.f fl a b c = some ((impl_IsClue.f fl a b c).getD false) := by
  have h : ∃ r, impl_IsClue.f fl a b c = some r := by
    unfold impl_IsClue.f impl_isHiddenHouse.f impl_isEggs.f impl_isBreak.f impl_within.f
    repeat (first | exact ⟨_, rfl⟩ | split | simp only [Option.bind_some])
  obtain ⟨r, h⟩ := h
  rw [h]; rfl
set_option maxHeartbeats 4000000 in
set_option maxRecDepth 100000 in
theorem isPuzzle1.calls (fl : Int) (g : Nat) (x : S25) (W : World) (h0 : W.cell? ⟨g, 0, none⟩ = some (.int .i64 fl)) :
    Calls Try.prog 82 #[.agg #[.int .i64 x.f0, .int .i64 x.f1, .int .i64 x.f2], .pointer (some ⟨g, 0, none⟩)] W fun e W' => e = .returned (.bool (!isClueB fl x)) ∧ Below W.heap.size W W' := by
  have HC := Aside0.mk (isClue_some fl x.f0 x.f1 x.f2)
  have h1 := World.block_lt_of_cell? W _ h0
  go_enter Try.func82, Try.ntmps82
  go_wp2_with (first | (go_at_call 21; refine (impl_IsClue.calls _ _ _ _ _ _ HC.out).mono ?_; rintro e w1 ⟨rfl, hb1⟩))
  go_ret
  exact ⟨rfl, ((Below.refl _ _).alloc (Nat.le_refl _) _).trans (hb1.mono (by simp))⟩
def impl_IsPuzzle.f (a0_0 : Int) (l0_1 : List S25) : Option Bool := some (decide (1 ≤ a0_0) && decide (a0_0 ≤ 40) && decide (l0_1.length ≤ 6) && l0_1.all (isClueB a0_0))
theorem hidden_some (a : Int) : impl_isHiddenHouse.f a = some (decide (1 ≤ a) && decide (a ≤ 40)) := by
  unfold impl_isHiddenHouse.f impl_within.f
  by_cases h : 1 ≤ a <;> simp [h]
set_option maxHeartbeats 4000000 in
set_option maxRecDepth 100000 in
theorem impl_IsPuzzle.calls (a0_0 : Int) (A0_1 : Option Addr) (c0_1 : Nat) (l0_1 : List S25) (r : Bool) (w : World) (hr0_1 : Kd.C k25 w A0_1 l0_1.length l0_1) (hc0_1 : l0_1.length ≤ c0_1) (h : impl_IsPuzzle.f a0_0 l0_1 = some r) :
    Calls Try.prog 25 #[.agg #[.int .i64 a0_0, .slice A0_1 l0_1.length c0_1]] w fun e w' => e = .returned (.bool r) ∧ Below w.heap.size w w' := by
  obtain rfl := Option.some.inj h
  clear h
  have HH := Aside0.mk (hidden_some a0_0)
  have HR := Aside0.mk (Kd.C_below hr0_1 ((Below.refl w.heap.size w).alloc (Nat.le_refl _) (.cells #[.int .i64 a0_0, .slice A0_1 l0_1.length c0_1] 35 (0, 0))))
  have hm := Kd.C_max hr0_1
  clear hr0_1
  cases h1 : (decide (1 ≤ a0_0) && decide (a0_0 ≤ 40)) with
  | false =>
    rw [h1] at HH
    clear h1
    go_enter Try.func25, Try.ntmps25
    go_wp2_with (first | (go_at_call 74; refine (impl_isHiddenHouse.calls _ _ _ HH.out).mono ?_; rintro e w1 ⟨rfl, ⟨nd, rfl⟩⟩))
    go_ret
    exact ⟨by simp, pw_below_drewN ((Below.refl _ _).alloc (Nat.le_refl _) _) _⟩
  | true =>
    rw [h1] at HH
    clear h1
    by_cases h2 : l0_1.length ≤ 6
    · have h2' : decide ((l0_1.length : Int) ≤ 6) = true := decide_eq_true (by omega)
      have h3' : decide (l0_1.length ≤ 6) = true := decide_eq_true h2
      have HX : Aside0 (∀ nd, Calls Try.prog 81 #[.slice A0_1 l0_1.length c0_1, .func (.func 82) #[] #[.pointer (some ⟨w.heap.size, 0, none⟩)]] ((w.alloc (.cells #[.int .i64 a0_0, .slice A0_1 l0_1.length c0_1] 35 (0, 0))).drewN nd) fun e w' => e = .returned (.bool (l0_1.any fun x => !isClueB a0_0 x)) ∧ Below (w.heap.size + 1) ((w.alloc (.cells #[.int .i64 a0_0, .slice A0_1 l0_1.length c0_1] 35 (0, 0))).drewN nd) w') := by
        refine ⟨fun nd => (anyClue.calls (fun x => !isClueB a0_0 x) 82 _ #[.pointer (some ⟨w.heap.size, 0, none⟩)] A0_1 c0_1 l0_1 _ (Kd.C_below HR.out (pw_below_drewN (Below.refl _ _) _)) Try.func82 (by kernel_rfl) rfl ?_).mono fun e w' hh => ⟨hh.1, hh.2.mono (by simp)⟩⟩
        intro x W _ hb
        exact isPuzzle1.calls a0_0 w.heap.size x W ((hb.cell (p := ⟨w.heap.size, 0, none⟩) (by simp)).trans (by rw [show ∀ (V : World) (p : Addr), (V.drewN nd).cell? p = V.cell? p from fun _ _ => rfl, World.cell?_alloc_at _ _ _ _ rfl]; rfl))
      go_enter Try.func25, Try.ntmps25
      go_wp2_with (first | (go_at_call 74; refine (impl_isHiddenHouse.calls _ _ _ HH.out).mono ?_; rintro e w1 ⟨rfl, ⟨nd, rfl⟩⟩) | (go_at_call 81; refine (HX.out _).mono ?_; rintro e w1 ⟨rfl, hb1⟩))
      go_ret
      exact ⟨by simp [h3', Hw.all_not_any], (pw_below_drewN ((Below.refl _ _).alloc (Nat.le_refl _) _) _).trans (hb1.mono (by simp))⟩
    · have h2' : decide ((l0_1.length : Int) ≤ 6) = false := decide_eq_false (by omega)
      have h3' : decide (l0_1.length ≤ 6) = false := decide_eq_false h2
      go_enter Try.func25, Try.ntmps25
      go_wp2_with (first | (go_at_call 74; refine (impl_isHiddenHouse.calls _ _ _ HH.out).mono ?_; rintro e w1 ⟨rfl, ⟨nd, rfl⟩⟩))
      go_ret
      exact ⟨by simp [h3'], pw_below_drewN ((Below.refl _ _).alloc (Nat.le_refl _) _) _⟩


-- FOR impl.newReaches
def reachAt : Nat → Nat → Int
  | 0, _ => 0
  | _ + 1, 0 => 0
  | t + 1, e + 1 => min 1000000001 (reachAt t e + reachAt t (e + 1) + 1)
theorem reachAt_lo (t e : Nat) : 0 ≤ reachAt t e := by
  induction t generalizing e with
  | zero => simp [reachAt]
  | succ t ih => cases e with
    | zero => simp [reachAt]
    | succ e => have := ih e; have := ih (e + 1); unfold reachAt; omega
theorem reachAt_hi (t e : Nat) : reachAt t e ≤ 1000000001 := by
  cases t with
  | zero => simp [reachAt]
  | succ t => cases e with
    | zero => simp [reachAt]
    | succ e => unfold reachAt; omega
def rCur (t e i j : Nat) : Int := if i < t ∨ i = t ∧ j < e then reachAt i j else 0
def RTab (cs : Array Value) (t e : Nat) : Prop := cs.size = 11011 ∧ ∀ i j, i < 1001 → j < 11 → cs[i * 11 + j]? = some (.int .i64 (rCur t e i j))
theorem RTab_zero : RTab (Array.replicate 11011 (.int .i64 0)) 1 1 := by
  refine ⟨by simp, fun i j hi hj => ?_⟩
  rw [Array.getElem?_replicate, if_pos (by omega)]
  unfold rCur
  split
  · rename_i h
    have : reachAt i j = 0 := by
      rcases i with _ | i
      · simp [reachAt]
      · have : j = 0 := by omega
        subst this; simp [reachAt]
    rw [this]
  · rfl
theorem RTab_row {cs : Array Value} {t : Nat} (h : RTab cs t 11) : RTab cs (t + 1) 1 := by
  refine ⟨h.1, fun i j hi hj => ?_⟩
  rw [h.2 i j hi hj]
  unfold rCur
  by_cases h1 : i < t ∨ i = t ∧ j < 11
  · rw [if_pos h1, if_pos (by omega)]
  · rw [if_neg h1]
    split
    · have : j = 0 := by omega
      subst this
      have : i = t + 1 := by omega
      subst this; simp [reachAt]
    · rfl
theorem RTab_get {cs : Array Value} {t e : Nat} (h : RTab cs t e) (i j : Nat) (hi : i < 1001) (hj : j < 11) (hd : i < t ∨ i = t ∧ j < e) : cs[i * 11 + j]? = some (.int .i64 (reachAt i j)) := by
  rw [h.2 i j hi hj]; unfold rCur; rw [if_pos hd]
theorem RTab_set {cs : Array Value} {t e : Nat} (h : RTab cs (t + 1) (e + 1)) (ht : t < 1000) (he : e < 10) : RTab (cs.setIfInBounds ((t + 1) * 11 + (e + 1)) (.int .i64 (min 1000000001 (reachAt t e + reachAt t (e + 1) + 1)))) (t + 1) (e + 2) := by
  refine ⟨by simp [h.1], fun i j hi hj => ?_⟩
  rw [Array.getElem?_setIfInBounds]
  by_cases h1 : (t + 1) * 11 + (e + 1) = i * 11 + j
  · have : i = t + 1 := by omega
    subst this
    have : j = e + 1 := by omega
    subst this
    rw [if_pos rfl, if_pos (by rw [h.1]; omega)]
    unfold rCur
    rw [if_pos (by omega)]
    rfl
  · rw [if_neg h1, h.2 i j hi hj]
    unfold rCur
    by_cases h2 : i < t + 1 ∨ i = t + 1 ∧ j < e + 1
    · rw [if_pos h2, if_pos (by omega)]
    · rw [if_neg h2, if_neg (by omega)]
def RchT (w : World) (b t e : Nat) : Prop := ∃ cs, w.heap[b]? = some (.cells cs 115 (0, 0)) ∧ RTab cs t e
def Rch (w : World) (b : Nat) : Prop := RchT w b 1001 1
set_option maxHeartbeats 8000000 in
set_option maxRecDepth 1000000 in
theorem newReaches.calls (w : World) :
    Calls Try.prog 86 #[] w fun e w' => e = .returned (.pointer (some ⟨w.heap.size, 0, none⟩)) ∧ Rch w' w.heap.size ∧ Below w.heap.size w w' := by
  obtain ⟨hz, hsz⟩ := zero_of_info (P := Try.prog) (t := 115) (v := .agg (Array.replicate 11011 (.int .i64 0))) (n := 11011) (by kernel_rfl)
  obtain ⟨Z, hZ⟩ : ∃ Z : Array Value, Z = Array.replicate 11011 (.int .i64 0) := ⟨_, rfl⟩
  rw [← hZ] at hz
  have HZ := Aside0.mk (show RTab Z 1 1 by rw [hZ]; exact RTab_zero)
  clear hZ
  have zs : ∀ w, Sem.run Try.prog (sizeOf 113) w = .ok 11 w := by
    have h13 : (Try.prog.info? 113).map (fun i => (i.zero, i.size)) = some (some (.agg (Array.replicate 11 (.int .i64 0))), 11) := by kernel_rfl
    intro w
    obtain ⟨_, h_⟩ := zero_of_info h13
    cases hq : Try.prog.info? 113 with
    | none => simp [hq] at h_
    | some i =>
      have h2_ : i.size = 11 := by simpa [hq] using h_
      simp [sizeOf, typeInfo, hq, h2_]
  go_enter Try.func86, Try.ntmps86
  go_wp2
  go_loopg [2] 1000 (fun n v w' => ∃ T : Int, v = .int .i64 T ∧ Aside0 (1 ≤ T ∧ T + n = 1001) ∧ Aside0 (RchT w' w.heap.size T.toNat 1) ∧ Aside0 (Below w.heap.size w w'))
  case atStart => exact ⟨1, rfl, ⟨by omega⟩, ⟨⟨Z, blk_new _ _, HZ.out⟩⟩, ⟨below_alloc (Below.refl _ _) _⟩⟩
  case round =>
    obtain ⟨T, rfl, HK, HT, HB⟩ := hrel
    by_cases hlt : T ≤ 1000
    · have h2 : decide (T ≤ 1000) = true := decide_eq_true (by omega)
      have HL := Aside0.mk hlt
      clear hlt
      go_wp2
      go_loopg [3] 10 (fun n v w' => ∃ e : Int, v = .int .i64 e ∧ Aside0 (1 ≤ e ∧ e + n = 11) ∧ Aside0 (RchT w' w.heap.size T.toNat e.toNat) ∧ Aside0 (Below w.heap.size w w'))
      case atStart => exact ⟨1, rfl, ⟨by omega⟩, HT, HB⟩
      case round =>
        clear HT HB
        obtain ⟨E, rfl, HK2, HT, HB⟩ := hrel
        by_cases hle : E ≤ 10
        · have h3 : decide (E ≤ 10) = true := decide_eq_true (by omega)
          have HL2 := Aside0.mk hle
          clear hle
          obtain ⟨t, ht⟩ : ∃ t : Nat, T = (t : Int) + 1 := ⟨(T - 1).toNat, by have := HK.out; omega⟩
          obtain ⟨ee, he⟩ : ∃ e : Nat, E = (e : Int) + 1 := ⟨(E - 1).toNat, by have := HK2.out; omega⟩
          obtain ⟨T1, hT1⟩ : ∃ T1 : Int, T1 = T - 1 := ⟨_, rfl⟩
          obtain ⟨E1, hE1⟩ : ∃ E1 : Int, E1 = E - 1 := ⟨_, rfl⟩
          obtain ⟨cs, hcs, hR⟩ := HT.out
          have hk := HK.out
          have hk2 := HK2.out
          have hl := HL.out
          have hl2 := HL2.out
          have hR' : RTab cs (t + 1) (ee + 1) := by rw [show T.toNat = t + 1 by omega, show E.toNat = ee + 1 by omega] at hR; exact hR
          have g0 : wr.cell? ⟨w.heap.size, T1.toNat * 11 + E1.toNat, none⟩ = some (.int .i64 (reachAt t ee)) := by rw [show T1.toNat = t by omega, show E1.toNat = ee by omega]; exact (blk_cell hcs (t * 11 + ee)).trans (RTab_get hR' t ee (by omega) (by omega) (by omega))
          have g1 : wr.cell? ⟨w.heap.size, T1.toNat * 11 + E.toNat, none⟩ = some (.int .i64 (reachAt t (ee + 1))) := by rw [show T1.toNat = t by omega, show E.toNat = ee + 1 by omega]; exact (blk_cell hcs (t * 11 + (ee + 1))).trans (RTab_get hR' t (ee + 1) (by omega) (by omega) (by omega))
          have g2 : wr.cell? ⟨w.heap.size, T.toNat * 11 + E.toNat, none⟩ = some (.int .i64 (rCur (t + 1) (ee + 1) (t + 1) (ee + 1))) := by rw [show T.toNat = t + 1 by omega, show E.toNat = ee + 1 by omega]; exact (blk_cell hcs ((t + 1) * 11 + (ee + 1))).trans (hR'.2 (t + 1) (ee + 1) (by omega) (by omega))
          have f2 : wr.frozen? ⟨w.heap.size, T.toNat * 11 + E.toNat, none⟩ = false := blk_frozen hcs _
          have w1 : IntKind.i64.wrap (T - 1) = T1 := by rw [hT1]; exact Hw.wrap_w (by omega) (by omega)
          have w2 : IntKind.i64.wrap (E - 1) = E1 := by rw [hE1]; exact Hw.wrap_w (by omega) (by omega)
          have d1 : decide (0 ≤ T1) = true := decide_eq_true (by omega)
          have d2 : decide (T1 < 1001) = true := decide_eq_true (by omega)
          have d3 : decide (0 ≤ E1) = true := decide_eq_true (by omega)
          have d4 : decide (E1 < 11) = true := decide_eq_true (by omega)
          have d5 : decide (0 ≤ T) = true := decide_eq_true (by omega)
          have d6 : decide (T < 1001) = true := decide_eq_true (by omega)
          have d7 : decide (0 ≤ E) = true := decide_eq_true (by omega)
          have d8 : decide (E < 11) = true := decide_eq_true (by omega)
          have e1 : 0 ≤ T1 := by omega
          have e2 : T1 < 1001 := by omega
          have e3 : 0 ≤ E1 := by omega
          have e4 : E1 < 11 := by omega
          have e5 : 0 ≤ T := by omega
          have e6 : T < 1001 := by omega
          have e7 : 0 ≤ E := by omega
          have e8 : E < 11 := by omega
          have n1 : Aside0 ((⟨w.heap.size, T.toNat * 11 + E.toNat, none⟩ : Addr) ≠ ⟨w.heap.size, T1.toNat * 11 + E1.toNat, none⟩) := ⟨fun h => by injection h; omega⟩
          have n2 : Aside0 ((⟨w.heap.size, T.toNat * 11 + E.toNat, none⟩ : Addr) ≠ ⟨w.heap.size, T1.toNat * 11 + E.toNat, none⟩) := ⟨fun h => by injection h; omega⟩
          have r1 := reachAt_lo t ee
          have r2 := reachAt_lo t (ee + 1)
          have r3 := reachAt_hi t ee
          have r4 := reachAt_hi t (ee + 1)
          obtain ⟨s1, hs1⟩ : ∃ s1 : Int, s1 = reachAt t ee + reachAt t (ee + 1) := ⟨_, rfl⟩
          obtain ⟨s2, hs2⟩ : ∃ s2 : Int, s2 = s1 + 1 := ⟨_, rfl⟩
          have w3 : IntKind.i64.wrap (reachAt t ee + reachAt t (ee + 1)) = s1 := by rw [hs1]; exact Hw.wrap_w (by omega) (by omega)
          have w4 : IntKind.i64.wrap (s1 + 1) = s2 := by rw [hs2]; exact Hw.wrap_w (by omega) (by omega)
          have A3 := Aside0.mk (And.intro hs1 hs2)
          clear hs1 hs2 r1 r2 r3 r4
          have A1 := Aside0.mk (And.intro hT1 (And.intro hE1 (And.intro ht he)))
          have A2 := Aside0.mk (And.intro hcs hR')
          clear hT1 hE1 hcs hR hR' hk hk2 hl hl2 ht he
          go_wp2
          go_region_held3 (fun w' => w'.cell? ⟨w.heap.size, T1.toNat * 11 + E1.toNat, none⟩ = some (.int .i64 (reachAt t ee)) ∧ w'.cell? ⟨w.heap.size, T1.toNat * 11 + E.toNat, none⟩ = some (.int .i64 (reachAt t (ee + 1)))) (first | exact ⟨g0, g1⟩ | exact ⟨(World.cell?_setCell_other _ _ _ _ n1.out).trans g0, (World.cell?_setCell_other _ _ _ _ n2.out).trans g1⟩) (fail)
          have w5 : IntKind.i64.wrap (E + 1) = E + 1 := Hw.wrap_w (by omega) (by omega)
          go_wp2
          all_goals
            go_roundg (10 - E).toNat
            case measure => have := HK2.out; omega
            case rel =>
              refine ⟨E + 1, rfl, ⟨by have := HK2.out; omega⟩, ⟨?_⟩, ⟨below_drew1 (below_set HB.out (Nat.le_refl _))⟩⟩
              obtain ⟨hcs, hR⟩ := A2.out
              obtain ⟨q1, q2, q3, q4⟩ := A1.out
              have q5 := A3.out
              refine ⟨_, blk_drew (blk_set hcs _ _), ?_⟩
              rw [show T.toNat = t + 1 by omega, show E.toNat = ee + 1 by omega, show (E + 1).toNat = ee + 2 by omega]
              refine cast (congrArg (fun z => RTab (cs.setIfInBounds ((t + 1) * 11 + (ee + 1)) (.int .i64 z)) (t + 1) (ee + 2)) ?_) (RTab_set hR (by omega) (by omega))
              omega
        · have h3 : decide (E ≤ 10) = false := decide_eq_false (by omega)
          have hE : E = 11 := by have := HK2.out; omega
          have w5 : IntKind.i64.wrap (T + 1) = T + 1 := Hw.wrap_w (by have := HK.out; omega) (by have := HL.out; omega)
          have HT2 : Aside0 (RchT wr w.heap.size (T + 1).toNat 1) := ⟨by
            obtain ⟨cs, hcs, hR⟩ := HT.out
            refine ⟨cs, hcs, ?_⟩
            rw [hE] at hR
            have := HK.out
            rw [show (T + 1).toNat = T.toNat + 1 by omega]
            exact RTab_row hR⟩
          clear hE HT hle
          go_wp2
          go_roundg (1000 - T).toNat
          case measure => have := HK.out; have := HL.out; omega
          case rel => exact ⟨T + 1, rfl, ⟨by have := HK.out; have := HL.out; omega⟩, HT2, HB⟩
    · have h2 : decide (T ≤ 1000) = false := decide_eq_false (by omega)
      have hT : T = 1001 := by have := HK.out; omega
      clear hlt
      go_wp2
      go_ret
      refine ⟨rfl, ?_, HB.out⟩
      have h_ := HT.out
      rw [hT] at h_
      exact h_


/-! ### impl_countBroken: function 107 -/
def impl_countBroken.l0 : Nat → Int → List (S121) → Int → Int → Option (Int)
  | 0, _, _, _, _ => none
  | k + 1, x3, x6, x7, x8 => if x8 < x7 then (if 0 ≤ x8 then (if x8 < (x6.length : Int) then (if (rd_T121 x6 x8).f1 = true then (impl_countBroken.l0 k (wrap64 (x3 + 1)) x6 x7 (wrap64 (x8 + 1))) else (impl_countBroken.l0 k x3 x6 x7 (wrap64 (x8 + 1)))) else (none)) else (none)) else (some x3)
def impl_countBroken.f (k : Nat) (l0 : List (S121)) : Option (Int) := impl_countBroken.l0 k 0 l0 (l0.length : Int) 0
theorem impl_countBroken.mono_l : ∀ k, (∀ y0 y1 y2 y3, LeO (impl_countBroken.l0 k y0 y1 y2 y3) (impl_countBroken.l0 (k + 1) y0 y1 y2 y3))
  | 0 => fun _ _ _ _ r h => by simp [impl_countBroken.l0] at h
  | k + 1 => by
    have ih0 := impl_countBroken.mono_l k
    · intro y0 y1 y2 y3
      unfold impl_countBroken.l0
      repeat' first
      | (with_reducible exact ih0 _ _ _ _)
      | (with_reducible exact LeO.refl _)
      | (with_reducible exact LeO.none _)
      | (with_reducible refine LeO.ite ?_ ?_)
      | (with_reducible refine LeO.bind ?_ (fun _ => ?_))
      | exact ih0 _ _ _ _
      | exact LeO.none _
      | refine LeO.ite ?_ ?_
      | refine LeO.bind ?_ (fun _ => ?_)
theorem impl_countBroken.mono : ∀ a0 k, LeO (impl_countBroken.f k a0) (impl_countBroken.f (k + 1) a0) := by
  intro a0 k
  have ih0 := impl_countBroken.mono_l k
  unfold impl_countBroken.f
  repeat' first
      | (with_reducible exact ih0 _ _ _ _)
      | (with_reducible exact LeO.refl _)
      | (with_reducible exact LeO.none _)
      | (with_reducible refine LeO.ite ?_ ?_)
      | (with_reducible refine LeO.bind ?_ (fun _ => ?_))
      | exact ih0 _ _ _ _
      | exact LeO.none _
      | refine LeO.ite ?_ ?_
      | refine LeO.bind ?_ (fun _ => ?_)
set_option maxHeartbeats 8000000 in
set_option maxRecDepth 100000 in
theorem impl_countBroken.calls (k : Nat) (A0 : Option Addr) (c0 : Nat) (l0 : List (S121)) (r : Int) (w : World) (hr0 : Kd.C k121 w A0 l0.length l0) (hc0 : l0.length ≤ c0) (h : impl_countBroken.f k l0 = some r) :
    Calls Try.prog 107 #[.slice A0 l0.length c0] w fun e w' => e = .returned (.int .i64 r) ∧ Below w.heap.size w w' := by
  have hu121 := Try.underlying121
  have HR0 := Aside0.mk hr0
  have HC0 := Aside0.mk hc0
  clear hr0 hc0
  have HB := Aside0.mk (Below.refl w.heap.size w)
  have H : (impl_countBroken.l0 k 0 l0 (l0.length : Int) 0) = some r := h
  clear h
  have H' := Aside0.mk H
  clear H
  go_enter Try.func107, Try.ntmps107
  go_wp2
  go_loopg [3, 8] k (fun kq v3 v8 w' => ∃ (x3_1 : Int) (x8_1 : Int), v3 = .int .i64 x3_1 ∧ v8 = .int .i64 x8_1 ∧ Aside0 (impl_countBroken.l0 kq x3_1 l0 (l0.length : Int) x8_1 = some r) ∧ Aside0 (kq ≤ k) ∧ Aside0 (Below w.heap.size w w'))
  case atStart => exact ⟨(0), (0), (by first | rfl | (simp; done) | (simp [*]; done)), (by first | rfl | (simp; done) | (simp [*]; done)), H', ⟨Nat.le_refl _⟩, ⟨by repeat (first | (with_reducible first | exact HB.out | apply below_alloc | apply pw_below_drewN | apply below_drew1) | exact HB.out)⟩⟩
  case round =>
    clear H'
    try clear c1
    obtain ⟨x3_1, x8_1, rfl, rfl, HA, HK1, HB⟩ := hrel
    cases gk with
    | zero => exact absurd HA.out (by simp [impl_countBroken.l0])
    | succ k1 =>
      have H := HA.out
      clear HA
      simp only [impl_countBroken.l0] at H
      by_cases c2 : x8_1 < (l0.length : Int)
      · rw [if_pos c2] at H
        have c2b0 : decide (x8_1 < (l0.length : Int)) = true := decide_eq_true c2
        clear c2
        by_cases c3 : 0 ≤ x8_1
        · rw [if_pos c3] at H
          have c3b0 : decide (0 ≤ x8_1) = true := decide_eq_true c3
          clear c3
          by_cases c4 : x8_1 < (l0.length : Int)
          · rw [if_pos c4] at H
            have c4b0 : decide (x8_1 < (l0.length : Int)) = true := decide_eq_true c4
            clear c4
            obtain ⟨bq5, hbq5⟩ : ∃ b_ : Bool, b_ = ((rd_T121 l0 x8_1).f1) := ⟨_, rfl⟩
            replace H : (if bq5 = true then (impl_countBroken.l0 k1 (wrap64 (x3_1 + 1)) l0 (l0.length : Int) (wrap64 (x8_1 + 1))) else (impl_countBroken.l0 k1 x3_1 l0 (l0.length : Int) (wrap64 (x8_1 + 1)))) = some r := by rw [← hbq5] at H; exact H
            have Nbq5 := Aside0.mk hbq5
            clear hbq5
            by_cases c6 : bq5 = true
            · subst c6
              have H1 : (impl_countBroken.l0 k1 (wrap64 (x3_1 + 1)) l0 (l0.length : Int) (wrap64 (x8_1 + 1))) = some r := by rw [if_pos rfl] at H; exact H
              clear H
              have H := H1
              clear H1
              have H' := Aside0.mk H
              clear H
              have p242 : 0 ≤ (x8_1 : Int) := of_decide_eq_true (by first | (with_reducible assumption) | assumption)
              have q242 : x8_1 < (l0.length : Int) := of_decide_eq_true (by first | (with_reducible assumption) | assumption)
              obtain ⟨ad242, e242, hx242_0, hx242_1⟩ := at_T121 HR0.out x8_1 p242 q242
              (try rw [← Nbq5.out] at hx242_1)
              cases e242
              replace hx242_0 := (HB.out.cell (World.block_lt_of_cell? w _ hx242_0)).trans hx242_0
              replace hx242_1 := (HB.out.cell (World.block_lt_of_cell? w _ hx242_1)).trans hx242_1
              replace p242 := eq_true p242
              replace q242 := eq_true q242
              go_wp2_with (first | ((with_reducible refine gate_dst (N := 5) rfl ?_); refine box_event ?hg (N := 5) ?hd (cs := #[.int .i64 0, .bool false]) (t := 121) ?hr ?_; (case hd => rfl); (case hg => rfl); (case hr => first | (go_simp; done) | (go_simp; rfl)); intro gb243 hg w7 hbox hb; have n0_ := Aside0.mk (below_step (by repeat (first | (with_reducible first | exact HB.out | apply below_alloc | apply pw_below_drewN | apply below_drew1) | exact HB.out)) hb); have n1_ := Aside0.mk (hbox); have n2_ := Aside0.mk ((by rw [hg]; exact (below_size (by repeat (first | (with_reducible first | exact HB.out | apply below_alloc | apply pw_below_drewN | apply below_drew1) | exact HB.out))) : w.heap.size ≤ gb243)); have n3_ := Aside0.mk ((by rw [hg]; exact (below_size (by repeat (first | (with_reducible first | exact HB.out | apply below_alloc | apply pw_below_drewN | apply below_drew1) | exact HB.out))) : w.heap.size ≤ gb243)); clear HB; have HB := n0_; have BK243 := n1_; have GW243 := n2_; have GE243 := n3_; clear n0_ n1_ n2_ n3_; clear hb hbox hg; have hcz8_0 : w7.cell? ⟨gb243, 0, none⟩ = some (.int .i64 0) := (blk_cell BK243.out 0).trans rfl; have hcz8_1 : w7.cell? ⟨gb243, 1, none⟩ = some (.bool false) := (blk_cell BK243.out 1).trans rfl; have hfz8_0 := blk_frozen BK243.out 0; have hfz8_1 := blk_frozen BK243.out 1))
              go_roundg k1
              case measure => have := HK1.out; omega
              case rel => exact ⟨(wrap64 (x3_1 + 1)), (wrap64 (x8_1 + 1)), (by first | rfl | (simp; done) | (simp [*]; done)), (by first | rfl | (simp; done) | (simp [*]; done)), H', ⟨by have := HK1.out; omega⟩, ⟨by repeat (first | (with_reducible first | exact HB.out | apply below_alloc | apply pw_below_drewN | apply below_drew1 | refine below_set ?_ GE243.out) | exact HB.out)⟩⟩
            · replace c6 := Bool.eq_false_iff.mpr c6
              subst c6
              have H1 : (impl_countBroken.l0 k1 x3_1 l0 (l0.length : Int) (wrap64 (x8_1 + 1))) = some r := by rw [if_neg (show ¬ (false = true) by decide)] at H; exact H
              clear H
              have H := H1
              clear H1
              have H' := Aside0.mk H
              clear H
              have p242 : 0 ≤ (x8_1 : Int) := of_decide_eq_true (by first | (with_reducible assumption) | assumption)
              have q242 : x8_1 < (l0.length : Int) := of_decide_eq_true (by first | (with_reducible assumption) | assumption)
              obtain ⟨ad242, e242, hx242_0, hx242_1⟩ := at_T121 HR0.out x8_1 p242 q242
              (try rw [← Nbq5.out] at hx242_1)
              cases e242
              replace hx242_0 := (HB.out.cell (World.block_lt_of_cell? w _ hx242_0)).trans hx242_0
              replace hx242_1 := (HB.out.cell (World.block_lt_of_cell? w _ hx242_1)).trans hx242_1
              replace p242 := eq_true p242
              replace q242 := eq_true q242
              go_wp2_with (first | ((with_reducible refine gate_dst (N := 5) rfl ?_); refine box_event ?hg (N := 5) ?hd (cs := #[.int .i64 0, .bool false]) (t := 121) ?hr ?_; (case hd => rfl); (case hg => rfl); (case hr => first | (go_simp; done) | (go_simp; rfl)); intro gb243 hg w9 hbox hb; have n0_ := Aside0.mk (below_step (by repeat (first | (with_reducible first | exact HB.out | apply below_alloc | apply pw_below_drewN | apply below_drew1) | exact HB.out)) hb); have n1_ := Aside0.mk (hbox); have n2_ := Aside0.mk ((by rw [hg]; exact (below_size (by repeat (first | (with_reducible first | exact HB.out | apply below_alloc | apply pw_below_drewN | apply below_drew1) | exact HB.out))) : w.heap.size ≤ gb243)); have n3_ := Aside0.mk ((by rw [hg]; exact (below_size (by repeat (first | (with_reducible first | exact HB.out | apply below_alloc | apply pw_below_drewN | apply below_drew1) | exact HB.out))) : w.heap.size ≤ gb243)); clear HB; have HB := n0_; have BK243 := n1_; have GW243 := n2_; have GE243 := n3_; clear n0_ n1_ n2_ n3_; clear hb hbox hg; have hcz10_0 : w9.cell? ⟨gb243, 0, none⟩ = some (.int .i64 0) := (blk_cell BK243.out 0).trans rfl; have hcz10_1 : w9.cell? ⟨gb243, 1, none⟩ = some (.bool false) := (blk_cell BK243.out 1).trans rfl; have hfz10_0 := blk_frozen BK243.out 0; have hfz10_1 := blk_frozen BK243.out 1))
              go_roundg k1
              case measure => have := HK1.out; omega
              case rel => exact ⟨(x3_1), (wrap64 (x8_1 + 1)), (by first | rfl | (simp; done) | (simp [*]; done)), (by first | rfl | (simp; done) | (simp [*]; done)), H', ⟨by have := HK1.out; omega⟩, ⟨by repeat (first | (with_reducible first | exact HB.out | apply below_alloc | apply pw_below_drewN | apply below_drew1 | refine below_set ?_ GE243.out) | exact HB.out)⟩⟩
          · rw [if_neg c4] at H
            exact absurd H (by simp)
        · rw [if_neg c3] at H
          exact absurd H (by simp)
      · rw [if_neg c2] at H
        have c2b0 : decide (x8_1 < (l0.length : Int)) = false := decide_eq_false c2
        clear c2
        obtain rfl := Option.some.inj H
        go_wp2
        go_ret
        exact ⟨by first | rfl | (simp [errW_none, errW_some] <;> rfl) | (simp [*, errW_none, errW_some] <;> rfl), by repeat (first | (with_reducible first | exact HB.out | apply below_alloc | apply pw_below_drewN | apply below_drew1) | exact HB.out)⟩

-- FOR (*impl.reaches).fewest
-- CALLS impl.newReaches
theorem reachAt_le_succ (t e : Nat) : reachAt t e ≤ reachAt (t + 1) e := by
  cases e with
  | zero => cases t <;> simp [reachAt]
  | succ e => have := reachAt_lo t e; have := reachAt_hi t (e + 1); rw [reachAt.eq_3]; omega
theorem reachAt_mono (e : Nat) {t t' : Nat} (h : t ≤ t') : reachAt t e ≤ reachAt t' e := by
  induction t' with
  | zero => rw [show t = 0 by omega]; exact Int.le_refl _
  | succ n ih =>
    rcases Nat.lt_or_ge n t with h1 | h1
    · rw [show t = n + 1 by omega]; exact Int.le_refl _
    · exact Int.le_trans (ih h1) (reachAt_le_succ n e)
def fewFrom (e : Nat) (fl : Int) : Nat → Nat → Nat
  | t, 0 => t
  | t, n + 1 => if fl ≤ reachAt t e then t else fewFrom e fl (t + 1) n
def few (e : Nat) (fl : Int) : Nat := fewFrom e fl 0 1000
theorem fewFrom_is (e : Nat) (fl : Int) (r : Nat) (n t : Nat) (h1 : t ≤ r) (h2 : r ≤ t + n) (h3 : ∀ s, s < r → reachAt s e < fl) (h4 : r = t + n ∨ fl ≤ reachAt r e) : fewFrom e fl t n = r := by
  induction n generalizing t with
  | zero => unfold fewFrom; omega
  | succ n ih =>
    unfold fewFrom
    split
    · rename_i h5
      rcases Nat.lt_or_ge t r with h6 | h6
      · have := h3 t h6; omega
      · omega
    · rename_i h5
      have : t ≠ r := by
        intro h6; subst h6
        rcases h4 with h4 | h4
        · omega
        · exact h5 h4
      exact ih (t + 1) (by omega) (by omega) (by rcases h4 with h4 | h4; exact .inl (by omega); exact .inr h4)
theorem few_is (e : Nat) (fl : Int) (r : Nat) (h2 : r ≤ 1000) (h3 : ∀ s, s < r → reachAt s e < fl) (h4 : r = 1000 ∨ fl ≤ reachAt r e) : few e fl = r :=
  fewFrom_is e fl r 1000 0 (by omega) (by omega) h3 (by rcases h4 with h4 | h4; exact .inl (by omega); exact .inr h4)
theorem size11 : ∀ w, Sem.run Try.prog (sizeOf 113) w = .ok 11 w := by
  have h13 : (Try.prog.info? 113).map (fun i => (i.zero, i.size)) = some (some (.agg (Array.replicate 11 (.int .i64 0))), 11) := by kernel_rfl
  intro w
  obtain ⟨_, h_⟩ := zero_of_info h13
  cases hq : Try.prog.info? 113 with
  | none => simp [hq] at h_
  | some i =>
    have h2_ : i.size = 11 := by simpa [hq] using h_
    simp [sizeOf, typeInfo, hq, h2_]
theorem Rch_cell {w : World} {b : Nat} (h : Rch w b) (t e : Int) (h1 : t < 1001) (h2 : e < 11) : w.cell? ⟨b, t.toNat * 11 + e.toNat, none⟩ = some (.int .i64 (reachAt t.toNat e.toNat)) := by
  obtain ⟨cs, hcs, hR⟩ := h
  exact (blk_cell hcs _).trans (RTab_get hR t.toNat e.toNat (by omega) (by omega) (by omega))
set_option maxHeartbeats 8000000 in
set_option maxRecDepth 1000000 in
theorem fewest.calls (w : World) (b : Nat) (e fl : Int) (hR : Rch w b) (he0 : 0 ≤ e) (he1 : e ≤ 10) :
    Calls Try.prog 127 #[.pointer (some ⟨b, 0, none⟩), .int .i64 e, .int .i64 fl] w fun en w' => en = .returned (.int .i64 (few e.toNat fl : Nat)) ∧ w' = w := by
  have zs := size11
  have HR := Aside0.mk hR
  have HE := Aside0.mk (And.intro he0 he1)
  have k1 : 0 ≤ e := he0
  have k2 : e < 11 := by omega
  clear hR he0 he1
  go_enter Try.func127, Try.ntmps127
  go_wp2
  go_loopg [7, 8] 1000 (fun n v7 v8 w' => ∃ lo hi : Int, v7 = .int .i64 lo ∧ v8 = .int .i64 hi ∧ w' = w ∧ Aside0 (0 ≤ lo ∧ lo ≤ hi ∧ hi ≤ 1000 ∧ hi - lo = n) ∧ Aside0 ((∀ s : Nat, s < lo.toNat → reachAt s e.toNat < fl) ∧ (hi = 1000 ∨ fl ≤ reachAt hi.toNat e.toNat)))
  case atStart => exact ⟨0, 1000, rfl, rfl, rfl, ⟨by omega⟩, ⟨fun s hs => absurd hs (by simp), .inl rfl⟩⟩
  case round =>
    obtain ⟨lo, hi, rfl, rfl, rfl, HK, HI⟩ := hrel
    by_cases hlt : lo < hi
    · have d1 : decide (lo < hi) = true := decide_eq_true hlt
      obtain ⟨sm, hsm⟩ : ∃ sm : Int, sm = lo + hi := ⟨_, rfl⟩
      obtain ⟨m, hm⟩ : ∃ m : Int, m = sm.tdiv 2 := ⟨_, rfl⟩
      have hm' : m = sm / 2 := by rw [hm]; exact Int.tdiv_eq_ediv_of_nonneg (by have := HK.out; omega)
      have w1 : IntKind.i64.wrap (lo + hi) = sm := by rw [hsm]; exact Hw.wrap_w (by have := HK.out; omega) (by have := HK.out; omega)
      have w2 : IntKind.i64.wrap (sm.tdiv 2) = m := by rw [← hm]; exact Hw.wrap_w (by have := HK.out; omega) (by have := HK.out; omega)
      have k3 : 0 ≤ m := by have := HK.out; omega
      have k4 : m < 1001 := by have := HK.out; omega
      have g0 := Rch_cell HR.out m e k4 k2
      have HM := Aside0.mk (And.intro hsm (And.intro hm' hlt))
      clear hsm hm hm' hlt
      by_cases hc : fl ≤ reachAt m.toNat e.toNat
      · have d2 : decide (fl ≤ reachAt m.toNat e.toNat) = true := decide_eq_true hc
        have HC := Aside0.mk hc
        clear hc
        go_wp2
        go_roundg (m - lo).toNat
        case measure => have := HK.out; have := HM.out; omega
        case rel => exact ⟨lo, m, rfl, rfl, rfl, ⟨by have := HK.out; have := HM.out; omega⟩, ⟨HI.out.1, .inr HC.out⟩⟩
      · have d2 : decide (fl ≤ reachAt m.toNat e.toNat) = false := decide_eq_false hc
        have HC := Aside0.mk hc
        have w3 : IntKind.i64.wrap (m + 1) = m + 1 := Hw.wrap_w (by omega) (by omega)
        clear hc
        go_wp2
        go_roundg (hi - (m + 1)).toNat
        case measure => have := HK.out; have := HM.out; omega
        case rel => exact ⟨m + 1, hi, rfl, rfl, rfl, ⟨by have := HK.out; have := HM.out; omega⟩, ⟨fun s hs => Int.lt_of_le_of_lt (reachAt_mono e.toNat (show s ≤ m.toNat by omega)) (by have := HC.out; omega), HI.out.2⟩⟩
    · have d1 : decide (lo < hi) = false := decide_eq_false hlt
      have HS : Aside0 (few e.toNat fl = lo.toNat) := ⟨few_is _ _ _ (by have := HK.out; omega) HI.out.1 (by have := HK.out; have := HI.out.2; have h_ : lo = hi := by omega
                                                                                                            rw [h_]; rcases this with h | h; exact .inl (by omega); exact .inr h)⟩
      have HLo := Aside0.mk hlt
      clear hlt
      go_wp2
      go_ret
      exact ⟨by rw [HS.out]; have := HK.out; exact congrArg (fun z => Ending.returned (.int .i64 z)) (by omega), rfl⟩


-- FOR (*impl.reaches).best
-- CALLS (*impl.reaches).fewest
def bestF (e : Nat) (fl : Int) : Int := max 1 (fl - reachAt (few e fl - 1) e)
theorem fewFrom_lo (e : Nat) (fl : Int) (n t : Nat) : t ≤ fewFrom e fl t n := by
  induction n generalizing t with
  | zero => exact Nat.le_refl _
  | succ n ih => unfold fewFrom; split; exact Nat.le_refl _; have := ih (t + 1); omega
theorem fewFrom_hi (e : Nat) (fl : Int) (n t : Nat) : fewFrom e fl t n ≤ t + n := by
  induction n generalizing t with
  | zero => exact Nat.le_refl _
  | succ n ih => unfold fewFrom; split; omega; have := ih (t + 1); omega
theorem few_hi (e : Nat) (fl : Int) : few e fl ≤ 1000 := by have := fewFrom_hi e fl 1000 0; unfold few; omega
theorem few_pos (e : Nat) (fl : Int) (h : 0 < fl) : 1 ≤ few e fl := by
  unfold few fewFrom
  rw [if_neg (by simp [reachAt]; omega)]
  exact fewFrom_lo _ _ _ _
set_option maxHeartbeats 8000000 in
set_option maxRecDepth 1000000 in
theorem best.calls (w : World) (b : Nat) (e fl : Int) (hR : Rch w b) (he0 : 0 ≤ e) (he1 : e ≤ 10) (hf0 : 0 < fl) (hf1 : fl ≤ 1000) :
    Calls Try.prog 119 #[.pointer (some ⟨b, 0, none⟩), .int .i64 e, .int .i64 fl] w fun en w' => en = .returned (.int .i64 (bestF e.toNat fl)) ∧ w' = w.drew := by
  have zs := size11
  have HF := Aside0.mk (fun (W : World) (h_ : Rch W b) => fewest.calls W b e fl h_ he0 he1)
  have HR := Aside0.mk hR
  have h1 := few_pos e.toNat fl hf0
  have h2 := few_hi e.toNat fl
  obtain ⟨n, hn⟩ : ∃ n : Int, n = (few e.toNat fl : Int) := ⟨_, rfl⟩
  obtain ⟨m, hm⟩ : ∃ m : Int, m = n - 1 := ⟨_, rfl⟩
  have hn' := hn.symm
  have w1 : IntKind.i64.wrap (n - 1) = m := by rw [hm]; exact Hw.wrap_w (by omega) (by omega)
  have k1 : 0 ≤ e := he0
  have k2 : e < 11 := by omega
  have k3 : 0 ≤ m := by omega
  have k4 : m < 1001 := by omega
  have g0 := Rch_cell hR m e k4 k2
  have r1 := reachAt_lo m.toNat e.toNat
  have r2 := reachAt_hi m.toNat e.toNat
  obtain ⟨d, hd⟩ : ∃ d : Int, d = fl - reachAt m.toNat e.toNat := ⟨_, rfl⟩
  have w2 : IntKind.i64.wrap (fl - reachAt m.toNat e.toNat) = d := by rw [hd]; exact Hw.wrap_w (by omega) (by omega)
  have HB : Aside0 (bestF e.toNat fl = max 1 d) := ⟨by unfold bestF; rw [hd, show few e.toNat fl - 1 = m.toNat by omega]⟩
  clear h1 h2 hn hR hm r1 r2 hd hf0 hf1 he0 he1
  go_enter Try.func119, Try.ntmps119
  go_wp2
  go_region_held3 (fun w' => w'.cell? ⟨b, m.toNat * 11 + e.toNat, none⟩ = some (.int .i64 (reachAt m.toNat e.toNat))) (exact g0) (first | (go_at_call 127; refine (HF.out _ (show Rch w.drew b from HR.out)).mono ?_; rintro en w1 ⟨rfl, rfl⟩))
  all_goals go_wp2
  all_goals
    go_ret
    exact ⟨by rw [HB.out]; exact congrArg (fun z => Ending.returned (.int .i64 z)) (by omega), rfl⟩


end Go.Proofs.Ytbkplokoomodcaa.H
