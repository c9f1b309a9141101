/- Plain Lean functions with the answers of Go functions, and proofs of it: printed by a program of this session (pr.py) over the kit's print, with hand-written parts. -/
import Derived.Test.YtoomacelbhojhaaEx0
import Derived.Test.YtoomacelbhojhaaEx1
import Derived.Test.YtoomacelbhojhaaEx2
import Derived.Test.YtoomacelbhojhaaEx3
import Derived.Test.YtoomacelbhojhaaEx4
import Derived.Test.YtoomacelbhojhaaEx5
import Derived.Test.YtoomacelbhojhaaEx6
namespace Go.Proofs.Ytoomacelbhojhaa.E
open Go.RowKit Go.Proofs.YtoomacelbhojhaaW.PrintWords Go.Proofs.YtoomacelbhojhaaW.PrintLast Go.Proofs.YtoomacelbhojhaaW.PrintMore
attribute [local go_sem] max2_int min2_int max_two min_two max_three min_three max_four min_four   -- for this text's walks alone
set_option linter.unusedVariables false
set_option linter.unusedSimpArgs false

/-! ### impl_countBroken: function 117 -/
def impl_countBroken.l0 : Nat → Int → List (S89) → Int → Int → Option (Int)
  | 0, _, _, _, _ => none
  | k + 1, x3, x6, x7, x8 => if x8 < x7 then (if 0 ≤ x8 then (if x8 < (x6.length : Int) then (if (rd_T89 x6 x8).f1 = true then (impl_countBroken.l0 k (wrap64 (x3 + 1)) x6 x7 (wrap64 (x8 + 1))) else (impl_countBroken.l0 k x3 x6 x7 (wrap64 (x8 + 1)))) else (none)) else (none)) else (some x3)
def impl_countBroken.f (k : Nat) (l0 : List (S89)) : Option (Int) := impl_countBroken.l0 k 0 l0 (l0.length : Int) 0
theorem impl_countBroken.mono_l : ∀ k, (∀ y0 y1 y2 y3, LeO (impl_countBroken.l0 k y0 y1 y2 y3) (impl_countBroken.l0 (k + 1) y0 y1 y2 y3))
  | 0 => fun _ _ _ _ r h => by simp [impl_countBroken.l0] at h
  | k + 1 => by
    have ih0 := impl_countBroken.mono_l k
    · intro y0 y1 y2 y3
      unfold impl_countBroken.l0
      repeat' first
      | (with_reducible exact ih0 _ _ _ _)
      | (with_reducible exact LeO.refl _)
      | (with_reducible exact LeO.none _)
      | (with_reducible refine LeO.ite ?_ ?_)
      | (with_reducible refine LeO.bind ?_ (fun _ => ?_))
      | exact ih0 _ _ _ _
      | exact LeO.none _
      | refine LeO.ite ?_ ?_
      | refine LeO.bind ?_ (fun _ => ?_)
theorem impl_countBroken.mono : ∀ a0 k, LeO (impl_countBroken.f k a0) (impl_countBroken.f (k + 1) a0) := by
  intro a0 k
  have ih0 := impl_countBroken.mono_l k
  unfold impl_countBroken.f
  repeat' first
      | (with_reducible exact ih0 _ _ _ _)
      | (with_reducible exact LeO.refl _)
      | (with_reducible exact LeO.none _)
      | (with_reducible refine LeO.ite ?_ ?_)
      | (with_reducible refine LeO.bind ?_ (fun _ => ?_))
      | exact ih0 _ _ _ _
      | exact LeO.none _
      | refine LeO.ite ?_ ?_
      | refine LeO.bind ?_ (fun _ => ?_)
set_option maxHeartbeats 8000000 in
set_option maxRecDepth 100000 in
theorem impl_countBroken.calls (k : Nat) (A0 : Option Addr) (c0 : Nat) (l0 : List (S89)) (r : Int) (w : World) (hr0 : Kd.C k89 w A0 l0.length l0) (hc0 : l0.length ≤ c0) (h : impl_countBroken.f k l0 = some r) :
    Calls Try.prog 117 #[.slice A0 l0.length c0] w fun e w' => e = .returned (.int .i64 r) ∧ Below w.heap.size w w' := by
  have hu89 := Try.underlying89
  have HR0 := Aside0.mk hr0
  have HC0 := Aside0.mk hc0
  clear hr0 hc0
  have HB := Aside0.mk (Below.refl w.heap.size w)
  have H : (impl_countBroken.l0 k 0 l0 (l0.length : Int) 0) = some r := h
  clear h
  have H' := Aside0.mk H
  clear H
  go_enter Try.func117, Try.ntmps117
  go_wp2
  go_loopg [3, 8] k (fun kq v3 v8 w' => ∃ (x3_1 : Int) (x8_1 : Int), v3 = .int .i64 x3_1 ∧ v8 = .int .i64 x8_1 ∧ Aside0 (impl_countBroken.l0 kq x3_1 l0 (l0.length : Int) x8_1 = some r) ∧ Aside0 (kq ≤ k) ∧ Aside0 (Below w.heap.size w w'))
  case atStart => exact ⟨(0), (0), (by first | rfl | (simp; done) | (simp [*]; done)), (by first | rfl | (simp; done) | (simp [*]; done)), H', ⟨Nat.le_refl _⟩, ⟨by repeat (first | (with_reducible first | exact HB.out | apply below_alloc | apply pw_below_drewN | apply below_drew1) | exact HB.out)⟩⟩
  case round =>
    clear H'
    try clear c1
    obtain ⟨x3_1, x8_1, rfl, rfl, HA, HK1, HB⟩ := hrel
    cases gk with
    | zero => exact absurd HA.out (by simp [impl_countBroken.l0])
    | succ k1 =>
      have H := HA.out
      clear HA
      simp only [impl_countBroken.l0] at H
      by_cases c2 : x8_1 < (l0.length : Int)
      · rw [if_pos c2] at H
        have c2b0 : decide (x8_1 < (l0.length : Int)) = true := decide_eq_true c2
        clear c2
        by_cases c3 : 0 ≤ x8_1
        · rw [if_pos c3] at H
          have c3b0 : decide (0 ≤ x8_1) = true := decide_eq_true c3
          clear c3
          by_cases c4 : x8_1 < (l0.length : Int)
          · rw [if_pos c4] at H
            have c4b0 : decide (x8_1 < (l0.length : Int)) = true := decide_eq_true c4
            clear c4
            obtain ⟨bq5, hbq5⟩ : ∃ b_ : Bool, b_ = ((rd_T89 l0 x8_1).f1) := ⟨_, rfl⟩
            replace H : (if bq5 = true then (impl_countBroken.l0 k1 (wrap64 (x3_1 + 1)) l0 (l0.length : Int) (wrap64 (x8_1 + 1))) else (impl_countBroken.l0 k1 x3_1 l0 (l0.length : Int) (wrap64 (x8_1 + 1)))) = some r := by rw [← hbq5] at H; exact H
            have Nbq5 := Aside0.mk hbq5
            clear hbq5
            by_cases c6 : bq5 = true
            · subst c6
              have H1 : (impl_countBroken.l0 k1 (wrap64 (x3_1 + 1)) l0 (l0.length : Int) (wrap64 (x8_1 + 1))) = some r := by rw [if_pos rfl] at H; exact H
              clear H
              have H := H1
              clear H1
              have H' := Aside0.mk H
              clear H
              have p135 : 0 ≤ (x8_1 : Int) := of_decide_eq_true (by first | (with_reducible assumption) | assumption)
              have q135 : x8_1 < (l0.length : Int) := of_decide_eq_true (by first | (with_reducible assumption) | assumption)
              obtain ⟨ad135, e135, hx135_0, hx135_1⟩ := at_T89 HR0.out x8_1 p135 q135
              (try rw [← Nbq5.out] at hx135_1)
              cases e135
              replace hx135_0 := (HB.out.cell (World.block_lt_of_cell? w _ hx135_0)).trans hx135_0
              replace hx135_1 := (HB.out.cell (World.block_lt_of_cell? w _ hx135_1)).trans hx135_1
              replace p135 := eq_true p135
              replace q135 := eq_true q135
              go_wp2_with (first | ((with_reducible refine gate_dst (N := 5) rfl ?_); refine box_event ?hg (N := 5) ?hd (cs := #[.int .i64 0, .bool false]) (t := 89) ?hr ?_; (case hd => rfl); (case hg => rfl); (case hr => first | (go_simp; done) | (go_simp; rfl)); intro gb136 hg w7 hbox hb; have n0_ := Aside0.mk (below_step (by repeat (first | (with_reducible first | exact HB.out | apply below_alloc | apply pw_below_drewN | apply below_drew1) | exact HB.out)) hb); have n1_ := Aside0.mk (hbox); have n2_ := Aside0.mk ((by rw [hg]; exact (below_size (by repeat (first | (with_reducible first | exact HB.out | apply below_alloc | apply pw_below_drewN | apply below_drew1) | exact HB.out))) : w.heap.size ≤ gb136)); have n3_ := Aside0.mk ((by rw [hg]; exact (below_size (by repeat (first | (with_reducible first | exact HB.out | apply below_alloc | apply pw_below_drewN | apply below_drew1) | exact HB.out))) : w.heap.size ≤ gb136)); clear HB; have HB := n0_; have BK136 := n1_; have GW136 := n2_; have GE136 := n3_; clear n0_ n1_ n2_ n3_; clear hb hbox hg; have hcz8_0 : w7.cell? ⟨gb136, 0, none⟩ = some (.int .i64 0) := (blk_cell BK136.out 0).trans rfl; have hcz8_1 : w7.cell? ⟨gb136, 1, none⟩ = some (.bool false) := (blk_cell BK136.out 1).trans rfl; have hfz8_0 := blk_frozen BK136.out 0; have hfz8_1 := blk_frozen BK136.out 1))
              go_roundg k1
              case measure => have := HK1.out; omega
              case rel => exact ⟨(wrap64 (x3_1 + 1)), (wrap64 (x8_1 + 1)), (by first | rfl | (simp; done) | (simp [*]; done)), (by first | rfl | (simp; done) | (simp [*]; done)), H', ⟨by have := HK1.out; omega⟩, ⟨by repeat (first | (with_reducible first | exact HB.out | apply below_alloc | apply pw_below_drewN | apply below_drew1 | refine below_set ?_ GE136.out) | exact HB.out)⟩⟩
            · replace c6 := Bool.eq_false_iff.mpr c6
              subst c6
              have H1 : (impl_countBroken.l0 k1 x3_1 l0 (l0.length : Int) (wrap64 (x8_1 + 1))) = some r := by rw [if_neg (show ¬ (false = true) by decide)] at H; exact H
              clear H
              have H := H1
              clear H1
              have H' := Aside0.mk H
              clear H
              have p135 : 0 ≤ (x8_1 : Int) := of_decide_eq_true (by first | (with_reducible assumption) | assumption)
              have q135 : x8_1 < (l0.length : Int) := of_decide_eq_true (by first | (with_reducible assumption) | assumption)
              obtain ⟨ad135, e135, hx135_0, hx135_1⟩ := at_T89 HR0.out x8_1 p135 q135
              (try rw [← Nbq5.out] at hx135_1)
              cases e135
              replace hx135_0 := (HB.out.cell (World.block_lt_of_cell? w _ hx135_0)).trans hx135_0
              replace hx135_1 := (HB.out.cell (World.block_lt_of_cell? w _ hx135_1)).trans hx135_1
              replace p135 := eq_true p135
              replace q135 := eq_true q135
              go_wp2_with (first | ((with_reducible refine gate_dst (N := 5) rfl ?_); refine box_event ?hg (N := 5) ?hd (cs := #[.int .i64 0, .bool false]) (t := 89) ?hr ?_; (case hd => rfl); (case hg => rfl); (case hr => first | (go_simp; done) | (go_simp; rfl)); intro gb136 hg w9 hbox hb; have n0_ := Aside0.mk (below_step (by repeat (first | (with_reducible first | exact HB.out | apply below_alloc | apply pw_below_drewN | apply below_drew1) | exact HB.out)) hb); have n1_ := Aside0.mk (hbox); have n2_ := Aside0.mk ((by rw [hg]; exact (below_size (by repeat (first | (with_reducible first | exact HB.out | apply below_alloc | apply pw_below_drewN | apply below_drew1) | exact HB.out))) : w.heap.size ≤ gb136)); have n3_ := Aside0.mk ((by rw [hg]; exact (below_size (by repeat (first | (with_reducible first | exact HB.out | apply below_alloc | apply pw_below_drewN | apply below_drew1) | exact HB.out))) : w.heap.size ≤ gb136)); clear HB; have HB := n0_; have BK136 := n1_; have GW136 := n2_; have GE136 := n3_; clear n0_ n1_ n2_ n3_; clear hb hbox hg; have hcz10_0 : w9.cell? ⟨gb136, 0, none⟩ = some (.int .i64 0) := (blk_cell BK136.out 0).trans rfl; have hcz10_1 : w9.cell? ⟨gb136, 1, none⟩ = some (.bool false) := (blk_cell BK136.out 1).trans rfl; have hfz10_0 := blk_frozen BK136.out 0; have hfz10_1 := blk_frozen BK136.out 1))
              go_roundg k1
              case measure => have := HK1.out; omega
              case rel => exact ⟨(x3_1), (wrap64 (x8_1 + 1)), (by first | rfl | (simp; done) | (simp [*]; done)), (by first | rfl | (simp; done) | (simp [*]; done)), H', ⟨by have := HK1.out; omega⟩, ⟨by repeat (first | (with_reducible first | exact HB.out | apply below_alloc | apply pw_below_drewN | apply below_drew1 | refine below_set ?_ GE136.out) | exact HB.out)⟩⟩
          · rw [if_neg c4] at H
            exact absurd H (by simp)
        · rw [if_neg c3] at H
          exact absurd H (by simp)
      · rw [if_neg c2] at H
        have c2b0 : decide (x8_1 < (l0.length : Int)) = false := decide_eq_false c2
        clear c2
        obtain rfl := Option.some.inj H
        go_wp2
        go_ret
        exact ⟨by first | rfl | (simp [errW_none, errW_some] <;> rfl) | (simp [*, errW_none, errW_some] <;> rfl), by repeat (first | (with_reducible first | exact HB.out | apply below_alloc | apply pw_below_drewN | apply below_drew1) | exact HB.out)⟩

/-! ### impl_climbs: function 118 -/
def impl_climbs.l0 : Nat → Int → Int → List (S89) → Int → Int → Option (Int)
  | 0, _, _, _, _, _ => none
  | k + 1, x3, x4, x7, x8, x9 => if x9 < x8 then (if 0 ≤ x9 then (if x9 < (x7.length : Int) then (impl_climbs.l0 k (wrap64 (x3 + (mx (wrap64 (((rd_T89 x7 x9).f0) - x4)) (wrap64 (x4 - ((rd_T89 x7 x9).f0)))))) ((rd_T89 x7 x9).f0) x7 x8 (wrap64 (x9 + 1))) else (none)) else (none)) else (some x3)
def impl_climbs.f (k : Nat) (l0 : List (S89)) : Option (Int) := impl_climbs.l0 k 0 0 l0 (l0.length : Int) 0
theorem impl_climbs.mono_l : ∀ k, (∀ y0 y1 y2 y3 y4, LeO (impl_climbs.l0 k y0 y1 y2 y3 y4) (impl_climbs.l0 (k + 1) y0 y1 y2 y3 y4))
  | 0 => fun _ _ _ _ _ r h => by simp [impl_climbs.l0] at h
  | k + 1 => by
    have ih0 := impl_climbs.mono_l k
    · intro y0 y1 y2 y3 y4
      unfold impl_climbs.l0
      repeat' first
      | (with_reducible exact ih0 _ _ _ _ _)
      | (with_reducible exact LeO.refl _)
      | (with_reducible exact LeO.none _)
      | (with_reducible refine LeO.ite ?_ ?_)
      | (with_reducible refine LeO.bind ?_ (fun _ => ?_))
      | exact ih0 _ _ _ _ _
      | exact LeO.none _
      | refine LeO.ite ?_ ?_
      | refine LeO.bind ?_ (fun _ => ?_)
theorem impl_climbs.mono : ∀ a0 k, LeO (impl_climbs.f k a0) (impl_climbs.f (k + 1) a0) := by
  intro a0 k
  have ih0 := impl_climbs.mono_l k
  unfold impl_climbs.f
  repeat' first
      | (with_reducible exact ih0 _ _ _ _ _)
      | (with_reducible exact LeO.refl _)
      | (with_reducible exact LeO.none _)
      | (with_reducible refine LeO.ite ?_ ?_)
      | (with_reducible refine LeO.bind ?_ (fun _ => ?_))
      | exact ih0 _ _ _ _ _
      | exact LeO.none _
      | refine LeO.ite ?_ ?_
      | refine LeO.bind ?_ (fun _ => ?_)
set_option maxHeartbeats 8000000 in
set_option maxRecDepth 100000 in
theorem impl_climbs.calls (k : Nat) (A0 : Option Addr) (c0 : Nat) (l0 : List (S89)) (r : Int) (w : World) (hr0 : Kd.C k89 w A0 l0.length l0) (hc0 : l0.length ≤ c0) (h : impl_climbs.f k l0 = some r) :
    Calls Try.prog 118 #[.slice A0 l0.length c0] w fun e w' => e = .returned (.int .i64 r) ∧ Below w.heap.size w w' := by
  have hu89 := Try.underlying89
  have HR0 := Aside0.mk hr0
  have HC0 := Aside0.mk hc0
  clear hr0 hc0
  have HB := Aside0.mk (Below.refl w.heap.size w)
  have H : (impl_climbs.l0 k 0 0 l0 (l0.length : Int) 0) = some r := h
  clear h
  have H' := Aside0.mk H
  clear H
  go_enter Try.func118, Try.ntmps118
  go_wp2
  go_loopg [3, 4, 9] k (fun kq v3 v4 v9 w' => ∃ (x3_1 : Int) (x4_1 : Int) (x9_1 : Int), v3 = .int .i64 x3_1 ∧ v4 = .int .i64 x4_1 ∧ v9 = .int .i64 x9_1 ∧ Aside0 (impl_climbs.l0 kq x3_1 x4_1 l0 (l0.length : Int) x9_1 = some r) ∧ Aside0 (kq ≤ k) ∧ Aside0 (Below w.heap.size w w'))
  case atStart => exact ⟨(0), (0), (0), (by first | rfl | (simp; done) | (simp [*]; done)), (by first | rfl | (simp; done) | (simp [*]; done)), (by first | rfl | (simp; done) | (simp [*]; done)), H', ⟨Nat.le_refl _⟩, ⟨by repeat (first | (with_reducible first | exact HB.out | apply below_alloc | apply pw_below_drewN | apply below_drew1) | exact HB.out)⟩⟩
  case round =>
    clear H'
    try clear c1
    obtain ⟨x3_1, x4_1, x9_1, rfl, rfl, rfl, HA, HK1, HB⟩ := hrel
    cases gk with
    | zero => exact absurd HA.out (by simp [impl_climbs.l0])
    | succ k1 =>
      have H := HA.out
      clear HA
      simp only [impl_climbs.l0] at H
      by_cases c2 : x9_1 < (l0.length : Int)
      · rw [if_pos c2] at H
        have c2b0 : decide (x9_1 < (l0.length : Int)) = true := decide_eq_true c2
        clear c2
        by_cases c3 : 0 ≤ x9_1
        · rw [if_pos c3] at H
          have c3b0 : decide (0 ≤ x9_1) = true := decide_eq_true c3
          clear c3
          by_cases c4 : x9_1 < (l0.length : Int)
          · rw [if_pos c4] at H
            have c4b0 : decide (x9_1 < (l0.length : Int)) = true := decide_eq_true c4
            clear c4
            obtain ⟨ji5, hji5⟩ : ∃ j_ : Int, (mx (wrap64 (((rd_T89 l0 x9_1).f0) - x4_1)) (wrap64 (x4_1 - ((rd_T89 l0 x9_1).f0)))) = j_ := ⟨_, rfl⟩
            replace H : (impl_climbs.l0 k1 (wrap64 (x3_1 + (ji5))) ((rd_T89 l0 x9_1).f0) l0 (l0.length : Int) (wrap64 (x9_1 + 1))) = some r := by first | (rw [hji5] at H; exact H) | (simp only [hji5] at H ⊢; exact H)
            have hji5_ : (if (wrap64 (((rd_T89 l0 x9_1).f0) - x4_1)) < (wrap64 (x4_1 - ((rd_T89 l0 x9_1).f0))) then (wrap64 (x4_1 - ((rd_T89 l0 x9_1).f0))) else (wrap64 (((rd_T89 l0 x9_1).f0) - x4_1))) = ji5 := hji5
            have H' := Aside0.mk H
            clear H
            have p137 : 0 ≤ (x9_1 : Int) := of_decide_eq_true (by first | (with_reducible assumption) | assumption)
            have q137 : x9_1 < (l0.length : Int) := of_decide_eq_true (by first | (with_reducible assumption) | assumption)
            obtain ⟨ad137, e137, hx137_0, hx137_1⟩ := at_T89 HR0.out x9_1 p137 q137
            cases e137
            replace hx137_0 := (HB.out.cell (World.block_lt_of_cell? w _ hx137_0)).trans hx137_0
            replace hx137_1 := (HB.out.cell (World.block_lt_of_cell? w _ hx137_1)).trans hx137_1
            replace p137 := eq_true p137
            replace q137 := eq_true q137
            go_wp2_with (first | ((with_reducible refine gate_dst (N := 6) rfl ?_); refine box_event ?hg (N := 6) ?hd (cs := #[.int .i64 0, .bool false]) (t := 89) ?hr ?_; (case hd => rfl); (case hg => rfl); (case hr => first | (go_simp; done) | (go_simp; rfl)); intro gb138 hg w6 hbox hb; have n0_ := Aside0.mk (below_step (by repeat (first | (with_reducible first | exact HB.out | apply below_alloc | apply pw_below_drewN | apply below_drew1) | exact HB.out)) hb); have n1_ := Aside0.mk (hbox); have n2_ := Aside0.mk ((by rw [hg]; exact (below_size (by repeat (first | (with_reducible first | exact HB.out | apply below_alloc | apply pw_below_drewN | apply below_drew1) | exact HB.out))) : w.heap.size ≤ gb138)); have n3_ := Aside0.mk ((by rw [hg]; exact (below_size (by repeat (first | (with_reducible first | exact HB.out | apply below_alloc | apply pw_below_drewN | apply below_drew1) | exact HB.out))) : w.heap.size ≤ gb138)); clear HB; have HB := n0_; have BK138 := n1_; have GW138 := n2_; have GE138 := n3_; clear n0_ n1_ n2_ n3_; clear hb hbox hg; have hcz7_0 : w6.cell? ⟨gb138, 0, none⟩ = some (.int .i64 0) := (blk_cell BK138.out 0).trans rfl; have hcz7_1 : w6.cell? ⟨gb138, 1, none⟩ = some (.bool false) := (blk_cell BK138.out 1).trans rfl; have hfz7_0 := blk_frozen BK138.out 0; have hfz7_1 := blk_frozen BK138.out 1))
            go_roundg k1
            case measure => have := HK1.out; omega
            case rel => exact ⟨(wrap64 (x3_1 + (ji5))), ((rd_T89 l0 x9_1).f0), (wrap64 (x9_1 + 1)), (by first | rfl | (simp; done) | (simp only [← hji5] <;> (first | rfl | simp)) | (simp [*]; done)), (by first | rfl | (simp; done) | (simp [*]; done)), (by first | rfl | (simp; done) | (simp [*]; done)), H', ⟨by have := HK1.out; omega⟩, ⟨by repeat (first | (with_reducible first | exact HB.out | apply below_alloc | apply pw_below_drewN | apply below_drew1 | refine below_set ?_ GE138.out) | exact HB.out)⟩⟩
          · rw [if_neg c4] at H
            exact absurd H (by simp)
        · rw [if_neg c3] at H
          exact absurd H (by simp)
      · rw [if_neg c2] at H
        have c2b0 : decide (x9_1 < (l0.length : Int)) = false := decide_eq_false c2
        clear c2
        obtain rfl := Option.some.inj H
        go_wp2
        go_ret
        exact ⟨by first | rfl | (simp [errW_none, errW_some] <;> rfl) | (simp [*, errW_none, errW_some] <;> rfl), by repeat (first | (with_reducible first | exact HB.out | apply below_alloc | apply pw_below_drewN | apply below_drew1) | exact HB.out)⟩

/-! ### impl_Prices_of: function 79 -/
def impl_Prices_of.f (k : Nat) (a0_0 : Int) (a0_1 : Int) (a0_2 : Int) (l1 : List (S89)) : Option (Int) := (impl_countBroken.f k l1).bind fun t140 => ((impl_climbs.f k l1).bind fun t141 => (some (wrap64 ((wrap64 ((wrap64 (a0_0 * t140)) + (wrap64 (a0_1 * (l1.length : Int))))) + (wrap64 (a0_2 * t141))))))
theorem impl_Prices_of.mono : ∀ a0 a1 a2 a3 k, LeO (impl_Prices_of.f k a0 a1 a2 a3) (impl_Prices_of.f (k + 1) a0 a1 a2 a3) := by
  intro a0 a1 a2 a3 k
  unfold impl_Prices_of.f
  repeat' first
      | (with_reducible exact impl_climbs.mono _ _)
      | (with_reducible exact impl_countBroken.mono _ _)
      | (with_reducible exact LeO.refl _)
      | (with_reducible exact LeO.none _)
      | (with_reducible refine LeO.ite ?_ ?_)
      | (with_reducible refine LeO.bind ?_ (fun _ => ?_))
      | exact impl_climbs.mono _ _
      | exact impl_countBroken.mono _ _
      | exact LeO.none _
      | refine LeO.ite ?_ ?_
      | refine LeO.bind ?_ (fun _ => ?_)
def impl_Prices_of.T1 : Bool × List (List Nat × List Nat) := (true, [([], []), ([0], [0]), ([], []), ([2], [2]), ([1, 3], [1, 3]), ([], []), ([5], [5]), ([], []), ([7], [7]), ([6, 8], [6, 8]), ([4, 9], [4, 9]), ([], []), ([11], [11]), ([], []), ([13, 3], [13]), ([12, 14], [12, 14]), ([10, 15], [10, 15]), ([16, 14, 0, 1, 2, 3, 4, 5, 6, 7, 8, 9, 10, 11, 12, 13, 14, 15, 16], [16])])
def impl_Prices_of.B1 : List Nat := [0, 1, 0, 4, 15, 0, 32, 0, 128, 480, 1023, 0, 2048, 0, 8204, 30732, 65535, 131071]
theorem impl_Prices_of.tab1 : rtab .any (opsOf Try.f79 1) = impl_Prices_of.T1 := by kernel_rfl
theorem impl_Prices_of.bits1 : waitsOk impl_Prices_of.T1.2 impl_Prices_of.B1 = true := by kernel_rfl
set_option maxHeartbeats 8000000 in
set_option maxRecDepth 100000 in
theorem impl_Prices_of.calls (k : Nat) (a0_0 : Int) (a0_1 : Int) (a0_2 : Int) (A1 : Option Addr) (c1 : Nat) (l1 : List (S89)) (r : Int) (w : World) (hr1 : Kd.C k89 w A1 l1.length l1) (hc1 : l1.length ≤ c1) (h : impl_Prices_of.f k a0_0 a0_1 a0_2 l1 = some r) :
    Calls Try.prog 79 #[.agg #[.int .i64 a0_0, .int .i64 a0_1, .int .i64 a0_2], .slice A1 l1.length c1] w fun e w' => e = .returned (.int .i64 r) ∧ Below w.heap.size w w' := by
  have hu41 := Try.underlying41
  have HR1 := Aside0.mk hr1
  have HC1 := Aside0.mk hc1
  clear hr1 hc1
  have HB := Aside0.mk (Below.refl w.heap.size w)
  have H : ((impl_countBroken.f k l1).bind fun t140 => ((impl_climbs.f k l1).bind fun t141 => (some (wrap64 ((wrap64 ((wrap64 (a0_0 * t140)) + (wrap64 (a0_1 * (l1.length : Int))))) + (wrap64 (a0_2 * t141))))))) = some r := h
  clear h
  replace H := Option.bind_eq_some_iff.mp H
  obtain ⟨t140, A30, H⟩ := H
  replace H : ((impl_climbs.f k l1).bind fun t141 => (some (wrap64 ((wrap64 ((wrap64 (a0_0 * t140)) + (wrap64 (a0_1 * (l1.length : Int))))) + (wrap64 (a0_2 * t141)))))) = some r := H
  have A3 := Aside0.mk A30
  clear A30
  replace H := Option.bind_eq_some_iff.mp H
  obtain ⟨t141, A40, H⟩ := H
  replace H : (some (wrap64 ((wrap64 ((wrap64 (a0_0 * t140)) + (wrap64 (a0_1 * (l1.length : Int))))) + (wrap64 (a0_2 * t141))))) = some r := H
  have A4 := Aside0.mk A40
  clear A40
  obtain rfl := Option.some.inj H
  go_enter Try.func79, Try.ntmps79
  try go_wp2_with (first | ((with_reducible refine gate_dst (N := 2) rfl ?_); refine box_event ?hg (N := 2) ?hd (cs := #[.int .i64 a0_0, .int .i64 a0_1, .int .i64 a0_2]) (t := 41) ?hr ?_; (case hd => rfl); (case hg => rfl); (case hr => first | (go_simp; done) | (go_simp; rfl)); intro gb139 hg w5 hbox hb; have n0_ := Aside0.mk (below_step (by repeat (first | (with_reducible first | exact HB.out | apply below_alloc | apply pw_below_drewN | apply below_drew1) | exact HB.out)) hb); have n1_ := Aside0.mk (hbox); have n2_ := Aside0.mk ((by rw [hg]; exact (below_size (by repeat (first | (with_reducible first | exact HB.out | apply below_alloc | apply pw_below_drewN | apply below_drew1) | exact HB.out))) : w.heap.size ≤ gb139)); have n3_ := Aside0.mk ((by rw [hg]; exact (below_size (by repeat (first | (with_reducible first | exact HB.out | apply below_alloc | apply pw_below_drewN | apply below_drew1) | exact HB.out))) : w.heap.size ≤ gb139)); clear HB; have HB := n0_; have BK139 := n1_; have GW139 := n2_; have GE139 := n3_; clear n0_ n1_ n2_ n3_; clear hb hbox hg))
  have n0_ := Aside0.mk (blk_drew BK139.out)
  have n1_ := Aside0.mk (below_drew1 HB.out)
  clear BK139
  clear HB
  have BK139 := n0_
  have HB := n1_
  clear n0_ n1_
  refine start_ (n := 18) (S := fun w' => w'.cell? ⟨gb139, 0, none⟩ = some (.int .i64 a0_0) ∧ w'.cell? ⟨gb139, 1, none⟩ = some (.int .i64 a0_1) ∧ w'.cell? ⟨gb139, 2, none⟩ = some (.int .i64 a0_2)) (ds := []) #[false, false, false, false, false, false, false, false, false, false, false, false, false, false, false, false, false, false] (by kernel_rfl) rfl rfl ⟨(blk_cell BK139.out 0).trans rfl, (blk_cell BK139.out 1).trans rfl, (blk_cell BK139.out 2).trans rfl⟩ (fun hHeld => ?_); refine with_tabW impl_Prices_of.tab1 impl_Prices_of.bits1 (fun HT_ HW_ => ?_)
  generalize w5.drew = w6 at BK139 HB hHeld ⊢
  refine pure_ (i := 0) (N := some 5) (v := ?_) (a' := ?_) #[true, false, false, false, false, false, false, false, false, false, false, false, false, false, false, false, false, false] rfl rfl (any_of HT_.out (by kernel_rfl)) (fun _ _ _ h => h) (Or.inl ⟨by rfl, ?_⟩) ?_ ?_
  rotate_left
  · intro w'
    go_simp
    with_reducible rfl
  rotate_left
  · simp only [Act.put, List.setIfInBounds_toArray, List.set_cons_zero, List.set_cons_succ, i64_w, i32_w]
    rfl
  refine pure_ (i := 2) (N := some 7) (v := ?_) (a' := ?_) #[true, false, true, false, false, false, false, false, false, false, false, false, false, false, false, false, false, false] rfl rfl (any_of HT_.out (by kernel_rfl)) (fun _ _ _ h => h) (Or.inl ⟨by rfl, ?_⟩) ?_ ?_
  rotate_left
  · intro w'
    go_simp
    with_reducible rfl
  rotate_left
  · simp only [Act.put, List.setIfInBounds_toArray, List.set_cons_zero, List.set_cons_succ, i64_w, i32_w]
    rfl
  refine pure_ (i := 5) (N := some 10) (v := ?_) (a' := ?_) #[true, false, true, false, false, true, false, false, false, false, false, false, false, false, false, false, false, false] rfl rfl (any_of HT_.out (by kernel_rfl)) (fun _ _ _ h => h) (Or.inl ⟨by rfl, ?_⟩) ?_ ?_
  rotate_left
  · intro w'
    go_simp
    with_reducible rfl
  rotate_left
  · simp only [Act.put, List.setIfInBounds_toArray, List.set_cons_zero, List.set_cons_succ, i64_w, i32_w]
    rfl
  refine pure_ (i := 7) (N := some 12) (v := ?_) (a' := ?_) #[true, false, true, false, false, true, false, true, false, false, false, false, false, false, false, false, false, false] rfl rfl (any_of HT_.out (by kernel_rfl)) (fun _ _ _ h => h) (Or.inl ⟨by rfl, ?_⟩) ?_ ?_
  rotate_left
  · intro w'
    go_simp
    with_reducible rfl
  rotate_left
  · simp only [Act.put, List.setIfInBounds_toArray, List.set_cons_zero, List.set_cons_succ, i64_w, i32_w]
    rfl
  refine pure_ (i := 8) (N := some 13) (v := ?_) (a' := ?_) #[true, false, true, false, false, true, false, true, true, false, false, false, false, false, false, false, false, false] rfl rfl (any_of HT_.out (by kernel_rfl)) (fun _ _ _ h => h) (Or.inl ⟨by rfl, ?_⟩) ?_ ?_
  rotate_left
  · intro w'
    go_simp
    with_reducible rfl
  rotate_left
  · simp only [Act.put, List.setIfInBounds_toArray, List.set_cons_zero, List.set_cons_succ, i64_w, i32_w]
    rfl
  refine pure_ (i := 11) (N := some 16) (v := ?_) (a' := ?_) #[true, false, true, false, false, true, false, true, true, false, false, true, false, false, false, false, false, false] rfl rfl (any_of HT_.out (by kernel_rfl)) (fun _ _ _ h => h) (Or.inl ⟨by rfl, ?_⟩) ?_ ?_
  rotate_left
  · intro w'
    go_simp
    with_reducible rfl
  rotate_left
  · simp only [Act.put, List.setIfInBounds_toArray, List.set_cons_zero, List.set_cons_succ, i64_w, i32_w]
    rfl
  refine pure_ (i := 13) (N := some 18) (v := ?_) (a' := ?_) #[true, false, true, false, false, true, false, true, true, false, false, true, false, true, false, false, false, false] rfl rfl (any_of HT_.out (by kernel_rfl)) (fun _ _ _ h => h) (Or.inl ⟨by rfl, ?_⟩) ?_ ?_
  rotate_left
  · intro w'
    go_simp
    with_reducible rfl
  rotate_left
  · simp only [Act.put, List.setIfInBounds_toArray, List.set_cons_zero, List.set_cons_succ, i64_w, i32_w]
    rfl
  refine take_ (i := 1) (N := some 6) (v := ?_) (a' := ?_) #[true, true, true, false, false, true, false, true, true, false, false, true, false, true, false, false, false, false] rfl rfl (take_ofW HT_.out HW_.out (by kernel_rfl)) (fun _ _ _ h => h) (Or.inl ⟨by rfl, ?_⟩) hHeld ?_ ?_
  rotate_left
  · rintro w' ⟨s0, s1, s2⟩
    go_simp
    with_reducible rfl
  rotate_left
  · simp only [Act.put, List.setIfInBounds_toArray, List.set_cons_zero, List.set_cons_succ, i64_w, i32_w]
    rfl
  refine take_ (i := 6) (N := some 11) (v := ?_) (a' := ?_) #[true, true, true, false, false, true, true, true, true, false, false, true, false, true, false, false, false, false] rfl rfl (take_ofW HT_.out HW_.out (by kernel_rfl)) (fun _ _ _ h => h) (Or.inl ⟨by rfl, ?_⟩) hHeld ?_ ?_
  rotate_left
  · rintro w' ⟨s0, s1, s2⟩
    go_simp
    with_reducible rfl
  rotate_left
  · simp only [Act.put, List.setIfInBounds_toArray, List.set_cons_zero, List.set_cons_succ, i64_w, i32_w]
    rfl
  refine pure_ (i := 9) (N := some 14) (v := ?_) (a' := ?_) #[true, true, true, false, false, true, true, true, true, true, false, true, false, true, false, false, false, false] rfl rfl (any_of HT_.out (by kernel_rfl)) (fun _ _ _ h => h) (Or.inl ⟨by rfl, ?_⟩) ?_ ?_
  rotate_left
  · intro w'
    go_simp
    with_reducible rfl
  rotate_left
  · simp only [Act.put, List.setIfInBounds_toArray, List.set_cons_zero, List.set_cons_succ, i64_w, i32_w]
    rfl
  refine take_ (i := 12) (N := some 17) (v := ?_) (a' := ?_) #[true, true, true, false, false, true, true, true, true, true, false, true, true, true, false, false, false, false] rfl rfl (take_ofW HT_.out HW_.out (by kernel_rfl)) (fun _ _ _ h => h) (Or.inl ⟨by rfl, ?_⟩) hHeld ?_ ?_
  rotate_left
  · rintro w' ⟨s0, s1, s2⟩
    go_simp
    with_reducible rfl
  rotate_left
  · simp only [Act.put, List.setIfInBounds_toArray, List.set_cons_zero, List.set_cons_succ, i64_w, i32_w]
    rfl
  refine one_ (i := 3) (N := some 8) #[true, true, true, true, false, true, true, true, true, true, false, true, true, true, false, false, false, false] rfl rfl (one_of HT_.out (by kernel_rfl)) (by decide) (fun K hK => ?_)
  refine goes_ Try.func117 (by kernel_rfl) rfl #[.slice A1 l1.length c1] (by rfl) rfl rfl (by (try simp only [List.map_toArray, List.map_cons, List.map_nil]); first | done | rfl | (simp only [List.length_drop, List.length_take]; rfl)) ?_
  with_reducible refine (impl_countBroken.calls k _ _ l1 t140 _ ?side1 ?side2 A3.out).mono ?_
  (case side1 => repeat (first | exact (Kd.C_below HR1.out HB.out) | (with_reducible refine Kd.C_alloc ?_ _) | (with_reducible refine Kd.C_drewN ?_ _) | (with_reducible refine Kd.C_drew ?_)))
  (case side2 => exact HC1.out)
  rintro e w7 ⟨rfl, hb⟩
  refine ⟨_, rfl, ?_⟩
  have n0_ := Aside0.mk (blk_below (g := gb139) (o := .cells #[.int .i64 a0_0, .int .i64 a0_1, .int .i64 a0_2] 41 (0, 0)) (by (with_reducible repeat (first | refine blk_drewN ?_ _ | refine blk_drew ?_ | refine blk_alloc ?_ _)); exact BK139.out) hb)
  have n1_ := Aside0.mk (below_step (by repeat (first | (with_reducible first | exact HB.out | apply below_alloc | apply pw_below_drewN | apply below_drew1 | refine below_set ?_ GE139.out) | exact HB.out)) hb)
  clear BK139
  clear HB
  have BK139 := n0_
  have HB := n1_
  clear n0_ n1_
  (try clear hb)
  (try clear hb2)
  (try clear hk)
  (try clear hi)
  refine hK.out _ _ ⟨(blk_cell BK139.out 0).trans rfl, (blk_cell BK139.out 1).trans rfl, (blk_cell BK139.out 2).trans rfl⟩ (fun hHeld => ?_)
  clear hK K
  refine norm_ (a' := ?_) ?_ ?_
  rotate_left
  · show Act.put _ (some 8) _ = _
    simp only [Act.put, List.setIfInBounds_toArray, List.set_cons_zero, List.set_cons_succ, i64_w, i32_w]
    rfl
  refine pure_ (i := 4) (N := some 9) (v := ?_) (a' := ?_) #[true, true, true, true, true, true, true, true, true, true, false, true, true, true, false, false, false, false] rfl rfl (any_of HT_.out (by kernel_rfl)) (fun _ _ _ h => h) (Or.inl ⟨by rfl, ?_⟩) ?_ ?_
  rotate_left
  · intro w'
    go_simp
    with_reducible rfl
  rotate_left
  · simp only [Act.put, List.setIfInBounds_toArray, List.set_cons_zero, List.set_cons_succ, i64_w, i32_w]
    rfl
  refine pure_ (i := 10) (N := some 15) (v := ?_) (a' := ?_) #[true, true, true, true, true, true, true, true, true, true, true, true, true, true, false, false, false, false] rfl rfl (any_of HT_.out (by kernel_rfl)) (fun _ _ _ h => h) (Or.inl ⟨by rfl, ?_⟩) ?_ ?_
  rotate_left
  · intro w'
    go_simp
    with_reducible rfl
  rotate_left
  · simp only [Act.put, List.setIfInBounds_toArray, List.set_cons_zero, List.set_cons_succ, i64_w, i32_w]
    rfl
  refine one_ (i := 14) (N := some 19) #[true, true, true, true, true, true, true, true, true, true, true, true, true, true, true, false, false, false] rfl rfl (one_of HT_.out (by kernel_rfl)) (by decide) (fun K hK => ?_)
  refine goes_ Try.func118 (by kernel_rfl) rfl #[.slice A1 l1.length c1] (by rfl) rfl rfl (by (try simp only [List.map_toArray, List.map_cons, List.map_nil]); first | done | rfl | (simp only [List.length_drop, List.length_take]; rfl)) ?_
  with_reducible refine (impl_climbs.calls k _ _ l1 t141 _ ?side1 ?side2 A4.out).mono ?_
  (case side1 => repeat (first | exact (Kd.C_below HR1.out HB.out) | (with_reducible refine Kd.C_alloc ?_ _) | (with_reducible refine Kd.C_drewN ?_ _) | (with_reducible refine Kd.C_drew ?_)))
  (case side2 => exact HC1.out)
  rintro e w8 ⟨rfl, hb⟩
  refine ⟨_, rfl, ?_⟩
  have n0_ := Aside0.mk (blk_below (g := gb139) (o := .cells #[.int .i64 a0_0, .int .i64 a0_1, .int .i64 a0_2] 41 (0, 0)) (by (with_reducible repeat (first | refine blk_drewN ?_ _ | refine blk_drew ?_ | refine blk_alloc ?_ _)); exact BK139.out) hb)
  have n1_ := Aside0.mk (below_step (by repeat (first | (with_reducible first | exact HB.out | apply below_alloc | apply pw_below_drewN | apply below_drew1 | refine below_set ?_ GE139.out) | exact HB.out)) hb)
  clear BK139
  clear HB
  have BK139 := n0_
  have HB := n1_
  clear n0_ n1_
  (try clear hb)
  (try clear hb2)
  (try clear hk)
  (try clear hi)
  refine hK.out _ _ ⟨(blk_cell BK139.out 0).trans rfl, (blk_cell BK139.out 1).trans rfl, (blk_cell BK139.out 2).trans rfl⟩ (fun hHeld => ?_)
  clear hK K
  refine norm_ (a' := ?_) ?_ ?_
  rotate_left
  · show Act.put _ (some 19) _ = _
    simp only [Act.put, List.setIfInBounds_toArray, List.set_cons_zero, List.set_cons_succ, i64_w, i32_w]
    rfl
  refine pure_ (i := 15) (N := some 20) (v := ?_) (a' := ?_) #[true, true, true, true, true, true, true, true, true, true, true, true, true, true, true, true, false, false] rfl rfl (any_of HT_.out (by kernel_rfl)) (fun _ _ _ h => h) (Or.inl ⟨by rfl, ?_⟩) ?_ ?_
  rotate_left
  · intro w'
    go_simp
    with_reducible rfl
  rotate_left
  · simp only [Act.put, List.setIfInBounds_toArray, List.set_cons_zero, List.set_cons_succ, i64_w, i32_w]
    rfl
  refine pure_ (i := 16) (N := some 21) (v := ?_) (a' := ?_) #[true, true, true, true, true, true, true, true, true, true, true, true, true, true, true, true, true, false] rfl rfl (any_of HT_.out (by kernel_rfl)) (fun _ _ _ h => h) (Or.inl ⟨by rfl, ?_⟩) ?_ ?_
  rotate_left
  · intro w'
    go_simp
    with_reducible rfl
  rotate_left
  · simp only [Act.put, List.setIfInBounds_toArray, List.set_cons_zero, List.set_cons_succ, i64_w, i32_w]
    rfl
  refine pure_ (i := 17) (N := some 4) (v := ?_) (a' := ?_) #[true, true, true, true, true, true, true, true, true, true, true, true, true, true, true, true, true, true] rfl rfl (any_of HT_.out (by kernel_rfl)) (fun _ _ _ h => h) (Or.inl ⟨by rfl, ?_⟩) ?_ ?_
  rotate_left
  · intro w'
    go_simp
    with_reducible rfl
  rotate_left
  · simp only [Act.put, List.setIfInBounds_toArray, List.set_cons_zero, List.set_cons_succ, i64_w, i32_w]
    rfl
  refine done_ (done_of HT_.out (by kernel_rfl)) ?_
  try go_wp2
  go_ret
  exact ⟨by first | rfl | (simp [errW_none, errW_some] <;> rfl) | (simp [*, errW_none, errW_some] <;> rfl), by repeat (first | (with_reducible first | exact HB.out | apply below_alloc | apply pw_below_drewN | apply below_drew1 | refine below_set ?_ GE139.out) | exact HB.out)⟩

-- FOR impl.CostliestBreaks
-- KIND rounds=0 making=1
-- CALLS impl.greatest ; impl.newCoster ; (*impl.coster).drops ; impl.isCostly ; (impl.Prices).of ; spec.csCost ; spec.csMake ; spec.l1Abs ; spec.l1Most ; (*spec.csTable).by
-- USES kd impl.Drop
/-! ### What a row of drops costs -/
def dOk (l : List S89) : Prop := l.length ≤ 60 ∧ ∀ x ∈ l, 0 ≤ x.f0 ∧ x.f0 ≤ 60
theorem rd_ok {l : List S89} (h : dOk l) (i : Int) : 0 ≤ (rd_T89 l i).f0 ∧ (rd_T89 l i).f0 ≤ 60 := by
  unfold rd_T89
  rw [List.getD_eq_getElem?_getD]
  by_cases hi : i.toNat < l.length
  · rw [List.getElem?_eq_getElem hi]
    exact h.2 _ (List.getElem_mem hi)
  · rw [List.getElem?_eq_none (by omega)]
    exact ⟨Int.le_refl _, by decide⟩
theorem brk_eq (l : List S89) : ∀ (k : Nat) (a n i : Int), impl_countBroken.l0 k a l n i = spec_flBroken.l0 k a l n i
  | 0, _, _, _ => rfl
  | k + 1, a, n, i => by rw [impl_countBroken.l0, spec_flBroken.l0, brk_eq l k, brk_eq l k]
theorem brk_some {l : List S89} (hl : l.length ≤ 60) : ∀ (n i k : Nat) (a : Int), i + n = l.length → n < k → ∃ r, spec_flBroken.l0 k a l (l.length : Int) (i : Int) = some r
  | 0, i, k, a, h1, h2 => by
    obtain ⟨k, rfl⟩ : ∃ m, k = m + 1 := ⟨k - 1, by omega⟩
    exact ⟨a, by rw [spec_flBroken.l0, if_neg (by omega)]⟩
  | n + 1, i, k, a, h1, h2 => by
    obtain ⟨k, rfl⟩ : ∃ m, k = m + 1 := ⟨k - 1, by omega⟩
    have w : wrap64 ((i : Int) + 1) = ((i + 1 : Nat) : Int) := by rw [Hw.wrap_id (by omega) (by omega)]; omega
    rw [spec_flBroken.l0, if_pos (by omega), if_pos (by omega), if_pos (by omega), w]
    split
    · exact brk_some hl n (i + 1) k _ (by omega) (by omega)
    · exact brk_some hl n (i + 1) k _ (by omega) (by omega)
theorem abs_mx {x y : Int} (hx : 0 ≤ x ∧ x ≤ 60) (hy : 0 ≤ y ∧ y ≤ 60) : spec_l1Abs.f (wrap64 (x - y)) = some (mx (wrap64 (x - y)) (wrap64 (y - x))) := by
  have h1 : wrap64 (x - y) = x - y := Hw.wrap_id (by omega) (by omega)
  have h2 : wrap64 (y - x) = y - x := Hw.wrap_id (by omega) (by omega)
  have h3 : wrap64 (-(x - y)) = y - x := (Hw.wrap_id (by omega) (by omega)).trans (by omega)
  rw [h1, h2]
  unfold spec_l1Abs.f mx
  rw [cmost_is, h3]
  simp only [Option.bind_some, Option.some.injEq]
  split <;> omega
theorem clm_eq {l : List S89} (h : dOk l) : ∀ (k : Nat) (a b n i : Int), 0 ≤ b ∧ b ≤ 60 → spec_csClimbs.l0 k a b l n i = impl_climbs.l0 k a b l n i
  | 0, _, _, _, _, _ => rfl
  | k + 1, a, b, n, i, hb => by
    rw [impl_climbs.l0, spec_csClimbs.l0, abs_mx (rd_ok h i) hb, Option.bind_some, clm_eq h k _ _ _ _ (rd_ok h i)]
theorem clm_some {l : List S89} (hl : l.length ≤ 60) : ∀ (n i k : Nat) (a b : Int), i + n = l.length → n < k → ∃ r, impl_climbs.l0 k a b l (l.length : Int) (i : Int) = some r
  | 0, i, k, a, b, h1, h2 => by
    obtain ⟨k, rfl⟩ : ∃ m, k = m + 1 := ⟨k - 1, by omega⟩
    exact ⟨a, by rw [impl_climbs.l0, if_neg (by omega)]⟩
  | n + 1, i, k, a, b, h1, h2 => by
    obtain ⟨k, rfl⟩ : ∃ m, k = m + 1 := ⟨k - 1, by omega⟩
    have w : wrap64 ((i : Int) + 1) = ((i + 1 : Nat) : Int) := by rw [Hw.wrap_id (by omega) (by omega)]; omega
    rw [impl_climbs.l0, if_pos (by omega), if_pos (by omega), if_pos (by omega), w]
    exact clm_some hl n (i + 1) k _ _ (by omega) (by omega)
def costL (p : CP) (l : List S89) : Int := (impl_Prices_of.f 62 p.e p.t p.c l).getD 0
theorem costL_impl (p : CP) {l : List S89} (h : dOk l) : impl_Prices_of.f 62 p.e p.t p.c l = some (costL p l) := by
  unfold costL
  obtain ⟨r1, e1⟩ := brk_some h.1 l.length 0 62 0 (by omega) (by have := h.1; omega)
  obtain ⟨r2, e2⟩ := clm_some h.1 l.length 0 62 0 0 (by omega) (by have := h.1; omega)
  have f1 : impl_countBroken.f 62 l = some r1 := (brk_eq l 62 0 _ 0).trans e1
  have f2 : impl_climbs.f 62 l = some r2 := e2
  unfold impl_Prices_of.f
  rw [f1, Option.bind_some, f2]
  rfl
theorem costL_spec (p : CP) {l : List S89} (h : dOk l) : spec_csCost.f 62 p.e p.t p.c l = some (costL p l) := by
  rw [← costL_impl p h]
  unfold spec_csCost.f impl_Prices_of.f impl_countBroken.f spec_flBroken.f spec_csClimbs.f impl_climbs.f
  rw [brk_eq, clm_eq h _ _ _ _ _ ⟨Int.le_refl _, by decide⟩]
theorem cDrops_bd {p : CP} (hp : p.Ok) (br : Int) : ∀ (k e n lo s : Nat), (1 ≤ e ∨ n = 0) → lo + n ≤ 60 → (∀ x ∈ cDrops p br k e n lo s, 0 ≤ x.f0 ∧ x.f0 ≤ 60) ∧ (cDrops p br k e n lo s).length ≤ k
  | 0, _, _, _, _, _, _ => ⟨fun x hx => by simp [cDrops] at hx, Nat.le_refl _⟩
  | k + 1, e, n, lo, s, he, hn => by
    rw [cDrops]
    split
    · exact ⟨fun x hx => by simp at hx, Nat.zero_le _⟩
    · rename_i h0
      obtain ⟨_, _, h1, h2, h3⟩ := cFloors_is hp (e := e) (n := n) s (by omega) (by omega) (by omega)
      obtain ⟨f, hf⟩ : ∃ f, f = cHead p e n s := ⟨_, rfl⟩
      rw [← hf] at h1 h2 h3 ⊢
      have hz : 0 ≤ ((lo + f : Nat) : Int) ∧ ((lo + f : Nat) : Int) ≤ 60 := by omega
      split
      · have ih := cDrops_bd hp br k (e - 1) (f - 1) lo 1 (by omega) (by omega)
        refine ⟨fun x hx => ?_, by rw [List.length_cons]; exact Nat.succ_le_succ ih.2⟩
        rcases List.mem_cons.1 hx with rfl | hx
        · exact hz
        · exact ih.1 x hx
      · have ih := cDrops_bd hp br k e (n - f) (lo + f) 0 (by omega) (by omega)
        refine ⟨fun x hx => ?_, by rw [List.length_cons]; exact Nat.succ_le_succ ih.2⟩
        rcases List.mem_cons.1 hx with rfl | hx
        · exact hz
        · exact ih.1 x hx
theorem cDrops_ok {p : CP} (hp : p.Ok) (br : Int) {e n : Nat} (he : 1 ≤ e) (hn : n ≤ 60) : dOk (cDrops p br n e n 0 0) :=
  ⟨Nat.le_trans (cDrops_bd hp br n e n 0 0 (.inl he) (by omega)).2 hn, (cDrops_bd hp br n e n 0 0 (.inl he) (by omega)).1⟩
def costB (p : CP) (e n : Nat) (b : Nat) : Int := costL p (cDrops p (b : Int) n e n 0 0)
def costliest (a0 a1 a2 a3 a4 : Int) : List Int × Bool := if cAsk a0 a1 a2 a3 a4 then ((gOut (costB (CP.mk a0 a1 a2) a3.toNat a4.toNat) (a4.toNat + 1)).1, true) else ([], false)

set_option maxHeartbeats 8000000 in
set_option maxRecDepth 100000 in
theorem costOf.calls (w : World) (p : CP) (hp : p.Ok) (bc g3 g8 g4 g5 E N b : Nat) (hC : Cst w bc p) (he : 1 ≤ E ∧ E ≤ 10 ∧ N ≤ 60)
    (h3 : w.heap[g3]? = some (.cells #[.int .i64 p.e, .int .i64 p.t, .int .i64 p.c] 41 (0, 0))) (h8 : w.heap[g8]? = some (.cells #[.pointer (some ⟨bc, 0, none⟩)] 85 (0, 0)))
    (h4 : w.heap[g4]? = some (.cells #[.int .i64 (E : Int)] 3 (0, 0))) (h5 : w.heap[g5]? = some (.cells #[.int .i64 (N : Int)] 3 (0, 0))) :
    Calls Try.prog 78 #[.int .i64 (b : Int), .pointer (some ⟨g3, 0, none⟩), .pointer (some ⟨g8, 0, none⟩), .pointer (some ⟨g4, 0, none⟩), .pointer (some ⟨g5, 0, none⟩)] w fun e_ w' => e_ = .returned (.int .i64 (costB p E N b)) ∧ Below w.heap.size w w' := by
  have hu41 := Try.underlying41
  have HP := Aside0.mk hp
  have HC : Aside0 (∀ W, Below w.heap.size w W → Cst W bc p) := ⟨fun W hW => CT.below hC hW⟩
  have HE := Aside0.mk he
  have HK := Aside0.mk (cDrops_ok hp (b : Int) he.1 he.2.2)
  have a0_ : w.cell? ⟨g3, 0, none⟩ = some (.int .i64 p.e) := (blk_cell h3 0).trans rfl
  have a1_ : w.cell? ⟨g3, 1, none⟩ = some (.int .i64 p.t) := (blk_cell h3 1).trans rfl
  have a2_ : w.cell? ⟨g3, 2, none⟩ = some (.int .i64 p.c) := (blk_cell h3 2).trans rfl
  have a3_ : w.cell? ⟨g8, 0, none⟩ = some (.pointer (some ⟨bc, 0, none⟩)) := (blk_cell h8 0).trans rfl
  have a4_ : w.cell? ⟨g4, 0, none⟩ = some (.int .i64 (E : Int)) := (blk_cell h4 0).trans rfl
  have a5_ : w.cell? ⟨g5, 0, none⟩ = some (.int .i64 (N : Int)) := (blk_cell h5 0).trans rfl
  unfold costB
  clear hp hC he h3 h8 h4 h5
  go_enter Try.func78, Try.ntmps78
  go_wp2
  go_upto_region 1 with fail
  refine start_ (n := 8) (S := fun w' => w'.cell? ⟨g3, 0, none⟩ = some (.int .i64 p.e) ∧ w'.cell? ⟨g3, 1, none⟩ = some (.int .i64 p.t) ∧ w'.cell? ⟨g3, 2, none⟩ = some (.int .i64 p.c) ∧ w'.cell? ⟨g8, 0, none⟩ = some (.pointer (some ⟨bc, 0, none⟩)) ∧ w'.cell? ⟨g4, 0, none⟩ = some (.int .i64 (E : Int)) ∧ w'.cell? ⟨g5, 0, none⟩ = some (.int .i64 (N : Int))) (ds := []) #[false, false, false, false, false, false, false, false] (by kernel_rfl) rfl rfl ⟨a0_, a1_, a2_, a3_, a4_, a5_⟩ (fun hHeld => ?_)
  refine pure_ (i := 4) (N := some 11) (v := ?_) (a' := ?_) #[false, false, false, false, true, false, false, false] rfl rfl (by kernel_rfl) (fun _ _ _ h => h) (Or.inl ⟨by rfl, ?_⟩) ?_ ?_
  rotate_left
  · intro w'
    go_simp
    with_reducible rfl
  rotate_left
  · simp only [Act.put, List.setIfInBounds_toArray, List.set_cons_zero, List.set_cons_succ, i64_w, i32_w]
    rfl
  refine take_ (i := 0) (N := some 7) (v := ?_) (a' := ?_) #[true, false, false, false, true, false, false, false] rfl rfl (by kernel_rfl) (fun _ _ _ h => h) (Or.inl ⟨by rfl, ?_⟩) hHeld ?_ ?_
  rotate_left
  · rintro w' ⟨s0, s1, s2, s3, s4, s5⟩
    go_simp
    with_reducible rfl
  rotate_left
  · simp only [Act.put, List.setIfInBounds_toArray, List.set_cons_zero, List.set_cons_succ, i64_w, i32_w]
    rfl
  refine take_ (i := 1) (N := some 8) (v := ?_) (a' := ?_) #[true, true, false, false, true, false, false, false] rfl rfl (by kernel_rfl) (fun _ _ _ h => h) (Or.inl ⟨by rfl, ?_⟩) hHeld ?_ ?_
  rotate_left
  · rintro w' ⟨s0, s1, s2, s3, s4, s5⟩
    go_simp
    with_reducible rfl
  rotate_left
  · simp only [Act.put, List.setIfInBounds_toArray, List.set_cons_zero, List.set_cons_succ, i64_w, i32_w]
    rfl
  refine take_ (i := 2) (N := some 9) (v := ?_) (a' := ?_) #[true, true, true, false, true, false, false, false] rfl rfl (by kernel_rfl) (fun _ _ _ h => h) (Or.inl ⟨by rfl, ?_⟩) hHeld ?_ ?_
  rotate_left
  · rintro w' ⟨s0, s1, s2, s3, s4, s5⟩
    go_simp
    with_reducible rfl
  rotate_left
  · simp only [Act.put, List.setIfInBounds_toArray, List.set_cons_zero, List.set_cons_succ, i64_w, i32_w]
    rfl
  refine take_ (i := 3) (N := some 10) (v := ?_) (a' := ?_) #[true, true, true, true, true, false, false, false] rfl rfl (by kernel_rfl) (fun _ _ _ h => h) (Or.inl ⟨by rfl, ?_⟩) hHeld ?_ ?_
  rotate_left
  · rintro w' ⟨s0, s1, s2, s3, s4, s5⟩
    go_simp
    with_reducible rfl
  rotate_left
  · simp only [Act.put, List.setIfInBounds_toArray, List.set_cons_zero, List.set_cons_succ, i64_w, i32_w]
    rfl
  refine one_ (i := 5) (N := some 12) #[true, true, true, true, true, true, false, false] rfl rfl (by kernel_rfl) (by decide) (fun K hK => ?_)
  refine goes_ Try.func74 (by kernel_rfl) rfl #[.pointer (some ⟨bc, 0, none⟩), .int .i64 (E : Int), .int .i64 (N : Int), .int .i64 (b : Int)] (by rfl) rfl rfl (by simp only [List.map_toArray, List.map_cons, List.map_nil]; rfl) ?_
  with_reducible refine (cdrops.calls p HP.out w.drew bc E N (b : Int) (HC.out _ (below_drew1 (Below.refl _ _))) HE.out).mono ?_
  rintro e_ w_1 ⟨v_, rfl, hr_, hb_⟩
  refine ⟨_, rfl, ?_⟩
  obtain ⟨A_, c_, ev_, hc_, hC_⟩ := Kd.R_reads hr_
  subst ev_
  have HD := Aside0.mk (Hx.undrew hb_)
  have HR := Aside0.mk (And.intro hC_ hc_)
  clear hr_ hb_ hC_ hc_
  refine hK.out _ _ ⟨pw_cell_below HD.out a0_, pw_cell_below HD.out a1_, pw_cell_below HD.out a2_, pw_cell_below HD.out a3_, pw_cell_below HD.out a4_, pw_cell_below HD.out a5_⟩ (fun hHeld => ?_)
  clear hK K
  refine norm_ (a' := ?_) ?_ ?_
  rotate_left
  · show Act.put _ (some 12) _ = _
    simp only [Act.put, List.setIfInBounds_toArray, List.set_cons_zero, List.set_cons_succ, i64_w, i32_w]
    rfl
  refine one_ (i := 6) (N := some 13) #[true, true, true, true, true, true, true, false] rfl rfl (by kernel_rfl) (by decide) (fun K hK => ?_)
  refine goes_ Try.func79 (by kernel_rfl) rfl #[.agg #[.int .i64 p.e, .int .i64 p.t, .int .i64 p.c], .slice A_ (cDrops p (b : Int) N E N 0 0).length c_] (by rfl) rfl rfl (by simp only [List.map_toArray, List.map_cons, List.map_nil]; rfl) ?_
  with_reducible refine (impl_Prices_of.calls 62 p.e p.t p.c A_ c_ _ _ w_1 HR.out.1 HR.out.2 (costL_impl p HK.out)).mono ?_
  rintro e_ w_2 ⟨rfl, hb_⟩
  refine ⟨_, rfl, ?_⟩
  have HD2 := Aside0.mk (Hx.bb_below hb_ HD.out)
  clear hb_
  refine hK.out _ _ ⟨pw_cell_below HD2.out a0_, pw_cell_below HD2.out a1_, pw_cell_below HD2.out a2_, pw_cell_below HD2.out a3_, pw_cell_below HD2.out a4_, pw_cell_below HD2.out a5_⟩ (fun hHeld => ?_)
  clear hK K
  refine norm_ (a' := ?_) ?_ ?_
  rotate_left
  · show Act.put _ (some 13) _ = _
    simp only [Act.put, List.setIfInBounds_toArray, List.set_cons_zero, List.set_cons_succ, i64_w, i32_w]
    rfl
  refine pure_ (i := 7) (N := some 6) (v := ?_) (a' := ?_) #[true, true, true, true, true, true, true, true] rfl rfl (by kernel_rfl) (fun _ _ _ h => h) (Or.inl ⟨by rfl, ?_⟩) ?_ ?_
  rotate_left
  · intro w'
    go_simp
    with_reducible rfl
  rotate_left
  · simp only [Act.put, List.setIfInBounds_toArray, List.set_cons_zero, List.set_cons_succ, i64_w, i32_w]
    rfl
  refine done_ (by kernel_rfl) ?_
  go_wp2
  go_ret
  exact ⟨rfl, HD2.out⟩

theorem CT.far {w : World} {b q g : Nat} {p : CP} (h : CT w b p q) (hne : b ≠ g) (i : Nat) (v : Value) : CT (w.setCell ⟨g, i, none⟩ v) b p q := by
  obtain ⟨cs, h1, h2⟩ := h
  exact ⟨cs, blk_far h1 hne _, h2⟩
theorem greatA (a0 a1 a2 a3 a4 : Int) (hA : (0 ≤ a0 ∧ a0 ≤ 1000) ∧ (0 ≤ a1 ∧ a1 ≤ 1000) ∧ (0 ≤ a2 ∧ a2 ≤ 1000) ∧ (1 ≤ a3 ∧ a3 ≤ 10) ∧ (0 ≤ a4 ∧ a4 ≤ 60)) {W : World} {bc g3 g8 g4 g5 : Nat} (hC : Cst W bc (CP.mk a0 a1 a2))
    (h3 : W.heap[g3]? = some (.cells #[.int .i64 a0, .int .i64 a1, .int .i64 a2] 41 (0, 0))) (h8 : W.heap[g8]? = some (.cells #[.pointer (some ⟨bc, 0, none⟩)] 85 (0, 0)))
    (h4 : W.heap[g4]? = some (.cells #[.int .i64 a3] 3 (0, 0))) (h5 : W.heap[g5]? = some (.cells #[.int .i64 a4] 3 (0, 0))) :
    Calls Try.prog 77 #[.int .i64 a4, .func (.func 78) #[] #[.pointer (some ⟨g3, 0, none⟩), .pointer (some ⟨g8, 0, none⟩), .pointer (some ⟨g4, 0, none⟩), .pointer (some ⟨g5, 0, none⟩)]] W fun e_ w' => ∃ v, e_ = .returned v ∧ Kd.R (Kd.int .i64) 3 w' W.heap.size (fun _ => True) v (gOut (costB (CP.mk a0 a1 a2) a3.toNat a4.toNat) (a4.toNat + 1)).1 ∧ Below W.heap.size W w' := by
  have h_ := greatest.calls (costB (CP.mk a0 a1 a2) a3.toNat a4.toNat) 78 Try.f78 #[.pointer (some ⟨g3, 0, none⟩), .pointer (some ⟨g8, 0, none⟩), .pointer (some ⟨g4, 0, none⟩), .pointer (some ⟨g5, 0, none⟩)] a4.toNat (by omega) W Try.func78 rfl rfl (fun b W' _ hW => ?_)
  · rw [Int.toNat_of_nonneg (by omega)] at h_
    exact h_
  · exact costOf.calls W' (CP.mk a0 a1 a2) (by show 0 ≤ a0 ∧ a0 ≤ 1000 ∧ 0 ≤ a1 ∧ a1 ≤ 1000 ∧ 0 ≤ a2 ∧ a2 ≤ 1000; omega) bc g3 g8 g4 g5 a3.toNat a4.toNat b (CT.below hC hW) (by omega) (Hx.b_below hW h3) (Hx.b_below hW h8) (by rw [Int.toNat_of_nonneg (by omega)]; exact Hx.b_below hW h4) (by rw [Int.toNat_of_nonneg (by omega)]; exact Hx.b_below hW h5)
def impl_CostliestBreaks.f (a0_0 a0_1 a0_2 a1 a2 : Int) : Option (List Int × Bool) := some (costliest a0_0 a0_1 a0_2 a1 a2)
set_option maxHeartbeats 8000000 in
set_option maxRecDepth 100000 in
theorem impl_CostliestBreaks.calls (a0 a1 a2 a3 a4 : Int) (r1 : List Int) (r2 : Bool) (w : World) (h : impl_CostliestBreaks.f a0 a1 a2 a3 a4 = some (r1, r2)) :
    Calls Try.prog 33 #[.agg #[.int .i64 a0, .int .i64 a1, .int .i64 a2], .int .i64 a3, .int .i64 a4] w fun e w' => ∃ v0_ : Value, e = .returned (.tuple #[v0_, .bool r2]) ∧ Kd.R (Kd.int .i64) 3 w' w.heap.size (fun _ => True) v0_ r1 ∧ Below w.heap.size w w' := by
  have hu41 := Try.underlying41
  have HB := Aside0.mk (Below.refl w.heap.size w)
  obtain ⟨b1, hb1⟩ : ∃ b, b = cAsk a0 a1 a2 a3 a4 := ⟨_, rfl⟩
  have e1 := isCostly_is a0 a1 a2 a3 a4
  unfold impl_CostliestBreaks.f costliest at h
  rw [← hb1] at e1 h
  have HC := Aside0.mk e1
  have HC1 := Aside0.mk hb1
  clear e1 hb1
  cases b1 with
  | false =>
    simp only [Bool.false_eq_true, if_false, Option.some.injEq, Prod.mk.injEq] at h
    obtain ⟨rfl, rfl⟩ := h
    go_enter Try.func33, Try.ntmps33
    go_wp2_with (first | ((with_reducible refine gate_dst (N := 3) rfl ?_); refine box_event ?hg (N := 3) ?hd (cs := #[.int .i64 a0, .int .i64 a1, .int .i64 a2]) (t := 41) ?hr ?_; (case hd => rfl); (case hg => rfl); (case hr => first | (go_simp; done) | (go_simp; rfl)); intro gB3 hg_ w_gB3 BK_ hb_; have ORD_ : Aside0 ((True) ∧ (w.heap.size ≤ gB3)) := ⟨by refine ⟨trivial, ?_⟩; (have := HB.out.size); omega⟩; have ORD := ORD_; clear ORD_; have n0_ : Aside0 (Below w.heap.size w w_gB3) := ⟨Hx.bb_below hb_ (by first | exact HB.out | exact below_drew1 HB.out | exact pw_below_drewN HB.out _)⟩; have m0_ : Aside0 (w_gB3.heap[gB3]? = some (.cells #[.int .i64 a0, .int .i64 a1, .int .i64 a2] 41 (0, 0))) := ⟨BK_⟩; (try clear HB); have HB := n0_; have B3 := m0_; clear n0_ m0_; have cB3_0 : w_gB3.cell? ⟨gB3, 0, none⟩ = some (.int .i64 a0) := (blk_cell B3.out 0).trans rfl; have dB3_0 := blk_frozen B3.out 0; have cB3_1 : w_gB3.cell? ⟨gB3, 1, none⟩ = some (.int .i64 a1) := (blk_cell B3.out 1).trans rfl; have dB3_1 := blk_frozen B3.out 1; have cB3_2 : w_gB3.cell? ⟨gB3, 2, none⟩ = some (.int .i64 a2) := (blk_cell B3.out 2).trans rfl; have dB3_2 := blk_frozen B3.out 2; clear hg_ BK_ hb_) | ((with_reducible refine gate_dst (N := 4) rfl ?_); refine box_event ?hg (N := 4) ?hd (cs := #[.int .i64 a3]) (t := 3) ?hr ?_; (case hd => rfl); (case hg => rfl); (case hr => first | (go_simp; done) | (go_simp; rfl)); intro gB4 hg_ w_gB4 BK_ hb_; have ORD_ : Aside0 (((True) ∧ (w.heap.size ≤ gB3)) ∧ (gB3 < gB4 ∧ w.heap.size ≤ gB4)) := ⟨by refine ⟨ORD.out, ?_⟩; (have := HB.out.size); (have := blk_lt B3.out); omega⟩; clear ORD; have ORD := ORD_; clear ORD_; have n0_ : Aside0 (Below w.heap.size w w_gB4) := ⟨Hx.bb_below hb_ (by first | exact HB.out | exact below_drew1 HB.out | exact pw_below_drewN HB.out _)⟩; have n1_ : Aside0 (w_gB4.heap[gB3]? = some (.cells #[.int .i64 a0, .int .i64 a1, .int .i64 a2] 41 (0, 0))) := ⟨Hx.b_below hb_ B3.out⟩; have m0_ : Aside0 (w_gB4.heap[gB4]? = some (.cells #[.int .i64 a3] 3 (0, 0))) := ⟨BK_⟩; (try clear cB3_0 dB3_0 cB3_1 dB3_1 cB3_2 dB3_2); (try clear HB); (try clear B3); have HB := n0_; have B3 := n1_; have B4 := m0_; clear n0_ n1_ m0_; have cB3_0 : w_gB4.cell? ⟨gB3, 0, none⟩ = some (.int .i64 a0) := (blk_cell B3.out 0).trans rfl; have dB3_0 := blk_frozen B3.out 0; have cB3_1 : w_gB4.cell? ⟨gB3, 1, none⟩ = some (.int .i64 a1) := (blk_cell B3.out 1).trans rfl; have dB3_1 := blk_frozen B3.out 1; have cB3_2 : w_gB4.cell? ⟨gB3, 2, none⟩ = some (.int .i64 a2) := (blk_cell B3.out 2).trans rfl; have dB3_2 := blk_frozen B3.out 2; have cB4_0 : w_gB4.cell? ⟨gB4, 0, none⟩ = some (.int .i64 a3) := (blk_cell B4.out 0).trans rfl; have dB4_0 := blk_frozen B4.out 0; clear hg_ BK_ hb_) | ((with_reducible refine gate_dst (N := 5) rfl ?_); refine box_event ?hg (N := 5) ?hd (cs := #[.int .i64 a4]) (t := 3) ?hr ?_; (case hd => rfl); (case hg => rfl); (case hr => first | (go_simp; done) | (go_simp; rfl)); intro gB5 hg_ w_gB5 BK_ hb_; have ORD_ : Aside0 ((((True) ∧ (w.heap.size ≤ gB3)) ∧ (gB3 < gB4 ∧ w.heap.size ≤ gB4)) ∧ (gB3 < gB5 ∧ gB4 < gB5 ∧ w.heap.size ≤ gB5)) := ⟨by refine ⟨ORD.out, ?_⟩; (have := HB.out.size); (have := blk_lt B3.out); (have := blk_lt B4.out); omega⟩; clear ORD; have ORD := ORD_; clear ORD_; have n0_ : Aside0 (Below w.heap.size w w_gB5) := ⟨Hx.bb_below hb_ (by first | exact HB.out | exact below_drew1 HB.out | exact pw_below_drewN HB.out _)⟩; have n1_ : Aside0 (w_gB5.heap[gB3]? = some (.cells #[.int .i64 a0, .int .i64 a1, .int .i64 a2] 41 (0, 0))) := ⟨Hx.b_below hb_ B3.out⟩; have n2_ : Aside0 (w_gB5.heap[gB4]? = some (.cells #[.int .i64 a3] 3 (0, 0))) := ⟨Hx.b_below hb_ B4.out⟩; have m0_ : Aside0 (w_gB5.heap[gB5]? = some (.cells #[.int .i64 a4] 3 (0, 0))) := ⟨BK_⟩; (try clear cB3_0 dB3_0 cB3_1 dB3_1 cB3_2 dB3_2 cB4_0 dB4_0); (try clear HB); (try clear B3); (try clear B4); have HB := n0_; have B3 := n1_; have B4 := n2_; have B5 := m0_; clear n0_ n1_ n2_ m0_; have cB3_0 : w_gB5.cell? ⟨gB3, 0, none⟩ = some (.int .i64 a0) := (blk_cell B3.out 0).trans rfl; have dB3_0 := blk_frozen B3.out 0; have cB3_1 : w_gB5.cell? ⟨gB3, 1, none⟩ = some (.int .i64 a1) := (blk_cell B3.out 1).trans rfl; have dB3_1 := blk_frozen B3.out 1; have cB3_2 : w_gB5.cell? ⟨gB3, 2, none⟩ = some (.int .i64 a2) := (blk_cell B3.out 2).trans rfl; have dB3_2 := blk_frozen B3.out 2; have cB4_0 : w_gB5.cell? ⟨gB4, 0, none⟩ = some (.int .i64 a3) := (blk_cell B4.out 0).trans rfl; have dB4_0 := blk_frozen B4.out 0; have cB5_0 : w_gB5.cell? ⟨gB5, 0, none⟩ = some (.int .i64 a4) := (blk_cell B5.out 0).trans rfl; have dB5_0 := blk_frozen B5.out 0; clear hg_ BK_ hb_) | ((with_reducible refine gate_callee (f := 71) rfl ?_); refine goesL_ (some 12) rfl rfl Try.func71 (by kernel_rfl) rfl #[.agg #[.int .i64 a0, .int .i64 a1, .int .i64 a2], .int .i64 a3, .int .i64 a4] rfl (by (try simp only [List.map_toArray, List.map_cons, List.map_nil]); first | done | rfl) ?_; refine (impl_isCostly.calls a0 a1 a2 a3 a4 false _ HC.out).mono ?_; rintro e_ w_1 ⟨rfl, hb_⟩; refine ⟨_, rfl, ?_⟩; have n0_ : Aside0 (Below w.heap.size w w_1) := ⟨Hx.bb_below hb_ (by first | exact HB.out | exact below_drew1 HB.out | exact pw_below_drewN HB.out _)⟩; have n1_ : Aside0 (w_1.heap[gB3]? = some (.cells #[.int .i64 a0, .int .i64 a1, .int .i64 a2] 41 (0, 0))) := ⟨Hx.b_below hb_ B3.out⟩; have n2_ : Aside0 (w_1.heap[gB4]? = some (.cells #[.int .i64 a3] 3 (0, 0))) := ⟨Hx.b_below hb_ B4.out⟩; have n3_ : Aside0 (w_1.heap[gB5]? = some (.cells #[.int .i64 a4] 3 (0, 0))) := ⟨Hx.b_below hb_ B5.out⟩; (try clear cB3_0 dB3_0 cB3_1 dB3_1 cB3_2 dB3_2 cB4_0 dB4_0 cB5_0 dB5_0); (try clear HB); (try clear B3); (try clear B4); (try clear B5); have HB := n0_; have B3 := n1_; have B4 := n2_; have B5 := n3_; clear n0_ n1_ n2_ n3_; have cB3_0 : w_1.cell? ⟨gB3, 0, none⟩ = some (.int .i64 a0) := (blk_cell B3.out 0).trans rfl; have dB3_0 := blk_frozen B3.out 0; have cB3_1 : w_1.cell? ⟨gB3, 1, none⟩ = some (.int .i64 a1) := (blk_cell B3.out 1).trans rfl; have dB3_1 := blk_frozen B3.out 1; have cB3_2 : w_1.cell? ⟨gB3, 2, none⟩ = some (.int .i64 a2) := (blk_cell B3.out 2).trans rfl; have dB3_2 := blk_frozen B3.out 2; have cB4_0 : w_1.cell? ⟨gB4, 0, none⟩ = some (.int .i64 a3) := (blk_cell B4.out 0).trans rfl; have dB4_0 := blk_frozen B4.out 0; have cB5_0 : w_1.cell? ⟨gB5, 0, none⟩ = some (.int .i64 a4) := (blk_cell B5.out 0).trans rfl; have dB5_0 := blk_frozen B5.out 0; clear hb_))
    go_ret2
    exact ⟨_, rfl, Kd.R_nil _ _ _ _ _, HB.out⟩
  | true =>
    simp only [if_true, Option.some.injEq, Prod.mk.injEq] at h
    obtain ⟨rfl, rfl⟩ := h
    have HA := Aside0.mk (of_decide_eq_true HC1.out.symm)
    have HP : Aside0 (CP.Ok (CP.mk a0 a1 a2)) := ⟨by have := HA.out; show 0 ≤ a0 ∧ a0 ≤ 1000 ∧ 0 ≤ a1 ∧ a1 ≤ 1000 ∧ 0 ≤ a2 ∧ a2 ≤ 1000; omega⟩
    go_enter Try.func33, Try.ntmps33
    go_wp2_with (first | ((with_reducible refine gate_dst (N := 3) rfl ?_); refine box_event ?hg (N := 3) ?hd (cs := #[.int .i64 a0, .int .i64 a1, .int .i64 a2]) (t := 41) ?hr ?_; (case hd => rfl); (case hg => rfl); (case hr => first | (go_simp; done) | (go_simp; rfl)); intro gB3 hg_ w_gB3 BK_ hb_; have ORD_ : Aside0 ((True) ∧ (w.heap.size ≤ gB3)) := ⟨by refine ⟨trivial, ?_⟩; (have := HB.out.size); omega⟩; have ORD := ORD_; clear ORD_; have n0_ : Aside0 (Below w.heap.size w w_gB3) := ⟨Hx.bb_below hb_ (by first | exact HB.out | exact below_drew1 HB.out | exact pw_below_drewN HB.out _)⟩; have m0_ : Aside0 (w_gB3.heap[gB3]? = some (.cells #[.int .i64 a0, .int .i64 a1, .int .i64 a2] 41 (0, 0))) := ⟨BK_⟩; (try clear HB); have HB := n0_; have B3 := m0_; clear n0_ m0_; have cB3_0 : w_gB3.cell? ⟨gB3, 0, none⟩ = some (.int .i64 a0) := (blk_cell B3.out 0).trans rfl; have dB3_0 := blk_frozen B3.out 0; have cB3_1 : w_gB3.cell? ⟨gB3, 1, none⟩ = some (.int .i64 a1) := (blk_cell B3.out 1).trans rfl; have dB3_1 := blk_frozen B3.out 1; have cB3_2 : w_gB3.cell? ⟨gB3, 2, none⟩ = some (.int .i64 a2) := (blk_cell B3.out 2).trans rfl; have dB3_2 := blk_frozen B3.out 2; clear hg_ BK_ hb_) | ((with_reducible refine gate_dst (N := 4) rfl ?_); refine box_event ?hg (N := 4) ?hd (cs := #[.int .i64 a3]) (t := 3) ?hr ?_; (case hd => rfl); (case hg => rfl); (case hr => first | (go_simp; done) | (go_simp; rfl)); intro gB4 hg_ w_gB4 BK_ hb_; have ORD_ : Aside0 (((True) ∧ (w.heap.size ≤ gB3)) ∧ (gB3 < gB4 ∧ w.heap.size ≤ gB4)) := ⟨by refine ⟨ORD.out, ?_⟩; (have := HB.out.size); (have := blk_lt B3.out); omega⟩; clear ORD; have ORD := ORD_; clear ORD_; have n0_ : Aside0 (Below w.heap.size w w_gB4) := ⟨Hx.bb_below hb_ (by first | exact HB.out | exact below_drew1 HB.out | exact pw_below_drewN HB.out _)⟩; have n1_ : Aside0 (w_gB4.heap[gB3]? = some (.cells #[.int .i64 a0, .int .i64 a1, .int .i64 a2] 41 (0, 0))) := ⟨Hx.b_below hb_ B3.out⟩; have m0_ : Aside0 (w_gB4.heap[gB4]? = some (.cells #[.int .i64 a3] 3 (0, 0))) := ⟨BK_⟩; (try clear cB3_0 dB3_0 cB3_1 dB3_1 cB3_2 dB3_2); (try clear HB); (try clear B3); have HB := n0_; have B3 := n1_; have B4 := m0_; clear n0_ n1_ m0_; have cB3_0 : w_gB4.cell? ⟨gB3, 0, none⟩ = some (.int .i64 a0) := (blk_cell B3.out 0).trans rfl; have dB3_0 := blk_frozen B3.out 0; have cB3_1 : w_gB4.cell? ⟨gB3, 1, none⟩ = some (.int .i64 a1) := (blk_cell B3.out 1).trans rfl; have dB3_1 := blk_frozen B3.out 1; have cB3_2 : w_gB4.cell? ⟨gB3, 2, none⟩ = some (.int .i64 a2) := (blk_cell B3.out 2).trans rfl; have dB3_2 := blk_frozen B3.out 2; have cB4_0 : w_gB4.cell? ⟨gB4, 0, none⟩ = some (.int .i64 a3) := (blk_cell B4.out 0).trans rfl; have dB4_0 := blk_frozen B4.out 0; clear hg_ BK_ hb_) | ((with_reducible refine gate_dst (N := 5) rfl ?_); refine box_event ?hg (N := 5) ?hd (cs := #[.int .i64 a4]) (t := 3) ?hr ?_; (case hd => rfl); (case hg => rfl); (case hr => first | (go_simp; done) | (go_simp; rfl)); intro gB5 hg_ w_gB5 BK_ hb_; have ORD_ : Aside0 ((((True) ∧ (w.heap.size ≤ gB3)) ∧ (gB3 < gB4 ∧ w.heap.size ≤ gB4)) ∧ (gB3 < gB5 ∧ gB4 < gB5 ∧ w.heap.size ≤ gB5)) := ⟨by refine ⟨ORD.out, ?_⟩; (have := HB.out.size); (have := blk_lt B3.out); (have := blk_lt B4.out); omega⟩; clear ORD; have ORD := ORD_; clear ORD_; have n0_ : Aside0 (Below w.heap.size w w_gB5) := ⟨Hx.bb_below hb_ (by first | exact HB.out | exact below_drew1 HB.out | exact pw_below_drewN HB.out _)⟩; have n1_ : Aside0 (w_gB5.heap[gB3]? = some (.cells #[.int .i64 a0, .int .i64 a1, .int .i64 a2] 41 (0, 0))) := ⟨Hx.b_below hb_ B3.out⟩; have n2_ : Aside0 (w_gB5.heap[gB4]? = some (.cells #[.int .i64 a3] 3 (0, 0))) := ⟨Hx.b_below hb_ B4.out⟩; have m0_ : Aside0 (w_gB5.heap[gB5]? = some (.cells #[.int .i64 a4] 3 (0, 0))) := ⟨BK_⟩; (try clear cB3_0 dB3_0 cB3_1 dB3_1 cB3_2 dB3_2 cB4_0 dB4_0); (try clear HB); (try clear B3); (try clear B4); have HB := n0_; have B3 := n1_; have B4 := n2_; have B5 := m0_; clear n0_ n1_ n2_ m0_; have cB3_0 : w_gB5.cell? ⟨gB3, 0, none⟩ = some (.int .i64 a0) := (blk_cell B3.out 0).trans rfl; have dB3_0 := blk_frozen B3.out 0; have cB3_1 : w_gB5.cell? ⟨gB3, 1, none⟩ = some (.int .i64 a1) := (blk_cell B3.out 1).trans rfl; have dB3_1 := blk_frozen B3.out 1; have cB3_2 : w_gB5.cell? ⟨gB3, 2, none⟩ = some (.int .i64 a2) := (blk_cell B3.out 2).trans rfl; have dB3_2 := blk_frozen B3.out 2; have cB4_0 : w_gB5.cell? ⟨gB4, 0, none⟩ = some (.int .i64 a3) := (blk_cell B4.out 0).trans rfl; have dB4_0 := blk_frozen B4.out 0; have cB5_0 : w_gB5.cell? ⟨gB5, 0, none⟩ = some (.int .i64 a4) := (blk_cell B5.out 0).trans rfl; have dB5_0 := blk_frozen B5.out 0; clear hg_ BK_ hb_) | ((with_reducible refine gate_callee (f := 71) rfl ?_); refine goesL_ (some 12) rfl rfl Try.func71 (by kernel_rfl) rfl #[.agg #[.int .i64 a0, .int .i64 a1, .int .i64 a2], .int .i64 a3, .int .i64 a4] rfl (by (try simp only [List.map_toArray, List.map_cons, List.map_nil]); first | done | rfl) ?_; refine (impl_isCostly.calls a0 a1 a2 a3 a4 true _ HC.out).mono ?_; rintro e_ w_1 ⟨rfl, hb_⟩; refine ⟨_, rfl, ?_⟩; have n0_ : Aside0 (Below w.heap.size w w_1) := ⟨Hx.bb_below hb_ (by first | exact HB.out | exact below_drew1 HB.out | exact pw_below_drewN HB.out _)⟩; have n1_ : Aside0 (w_1.heap[gB3]? = some (.cells #[.int .i64 a0, .int .i64 a1, .int .i64 a2] 41 (0, 0))) := ⟨Hx.b_below hb_ B3.out⟩; have n2_ : Aside0 (w_1.heap[gB4]? = some (.cells #[.int .i64 a3] 3 (0, 0))) := ⟨Hx.b_below hb_ B4.out⟩; have n3_ : Aside0 (w_1.heap[gB5]? = some (.cells #[.int .i64 a4] 3 (0, 0))) := ⟨Hx.b_below hb_ B5.out⟩; (try clear cB3_0 dB3_0 cB3_1 dB3_1 cB3_2 dB3_2 cB4_0 dB4_0 cB5_0 dB5_0); (try clear HB); (try clear B3); (try clear B4); (try clear B5); have HB := n0_; have B3 := n1_; have B4 := n2_; have B5 := n3_; clear n0_ n1_ n2_ n3_; have cB3_0 : w_1.cell? ⟨gB3, 0, none⟩ = some (.int .i64 a0) := (blk_cell B3.out 0).trans rfl; have dB3_0 := blk_frozen B3.out 0; have cB3_1 : w_1.cell? ⟨gB3, 1, none⟩ = some (.int .i64 a1) := (blk_cell B3.out 1).trans rfl; have dB3_1 := blk_frozen B3.out 1; have cB3_2 : w_1.cell? ⟨gB3, 2, none⟩ = some (.int .i64 a2) := (blk_cell B3.out 2).trans rfl; have dB3_2 := blk_frozen B3.out 2; have cB4_0 : w_1.cell? ⟨gB4, 0, none⟩ = some (.int .i64 a3) := (blk_cell B4.out 0).trans rfl; have dB4_0 := blk_frozen B4.out 0; have cB5_0 : w_1.cell? ⟨gB5, 0, none⟩ = some (.int .i64 a4) := (blk_cell B5.out 0).trans rfl; have dB5_0 := blk_frozen B5.out 0; clear hb_) | ((with_reducible refine gate_callee (f := 73) rfl ?_); refine goesL_ (some 15) rfl rfl Try.func73 (by kernel_rfl) rfl #[.agg #[.int .i64 a0, .int .i64 a1, .int .i64 a2]] rfl (by (try simp only [List.map_toArray, List.map_cons, List.map_nil]); first | done | rfl) ?_; refine (newCoster.calls (CP.mk a0 a1 a2) HP.out _).mono ?_; rintro e_ w_3 ⟨bc_, rfl, _, hc_, hb_⟩; refine ⟨_, rfl, ?_⟩; have n0_ : Aside0 (Below w.heap.size w w_3) := ⟨Hx.bb_below hb_ (by first | exact HB.out | exact below_drew1 HB.out | exact pw_below_drewN HB.out _)⟩; have n1_ : Aside0 (w_3.heap[gB3]? = some (.cells #[.int .i64 a0, .int .i64 a1, .int .i64 a2] 41 (0, 0))) := ⟨Hx.b_below hb_ B3.out⟩; have n2_ : Aside0 (w_3.heap[gB4]? = some (.cells #[.int .i64 a3] 3 (0, 0))) := ⟨Hx.b_below hb_ B4.out⟩; have n3_ : Aside0 (w_3.heap[gB5]? = some (.cells #[.int .i64 a4] 3 (0, 0))) := ⟨Hx.b_below hb_ B5.out⟩; have m0_ : Aside0 (Cst w_3 bc_ (CP.mk a0 a1 a2)) := ⟨hc_⟩; (try clear cB3_0 dB3_0 cB3_1 dB3_1 cB3_2 dB3_2 cB4_0 dB4_0 cB5_0 dB5_0); (try clear HB); (try clear B3); (try clear B4); (try clear B5); have HB := n0_; have B3 := n1_; have B4 := n2_; have B5 := n3_; have HT := m0_; clear n0_ n1_ n2_ n3_ m0_; have cB3_0 : w_3.cell? ⟨gB3, 0, none⟩ = some (.int .i64 a0) := (blk_cell B3.out 0).trans rfl; have dB3_0 := blk_frozen B3.out 0; have cB3_1 : w_3.cell? ⟨gB3, 1, none⟩ = some (.int .i64 a1) := (blk_cell B3.out 1).trans rfl; have dB3_1 := blk_frozen B3.out 1; have cB3_2 : w_3.cell? ⟨gB3, 2, none⟩ = some (.int .i64 a2) := (blk_cell B3.out 2).trans rfl; have dB3_2 := blk_frozen B3.out 2; have cB4_0 : w_3.cell? ⟨gB4, 0, none⟩ = some (.int .i64 a3) := (blk_cell B4.out 0).trans rfl; have dB4_0 := blk_frozen B4.out 0; have cB5_0 : w_3.cell? ⟨gB5, 0, none⟩ = some (.int .i64 a4) := (blk_cell B5.out 0).trans rfl; have dB5_0 := blk_frozen B5.out 0; clear hb_ hc_) | ((with_reducible refine gate_dst (N := 8) rfl ?_); refine box_event ?hg (N := 8) ?hd (cs := #[.pointer none]) (t := 85) ?hr ?_; (case hd => rfl); (case hg => rfl); (case hr => first | (go_simp; done) | (go_simp; rfl)); intro gB8 hg_ w_gB8 BK_ hb_; have ORD_ : Aside0 (((((True) ∧ (w.heap.size ≤ gB3)) ∧ (gB3 < gB4 ∧ w.heap.size ≤ gB4)) ∧ (gB3 < gB5 ∧ gB4 < gB5 ∧ w.heap.size ≤ gB5)) ∧ (bc_ < gB8 ∧ gB3 < gB8 ∧ gB4 < gB8 ∧ gB5 < gB8 ∧ w.heap.size ≤ gB8)) := ⟨by refine ⟨ORD.out, ?_⟩; (have := HB.out.size); (have := blk_lt B3.out); (have := blk_lt B4.out); (have := blk_lt B5.out); (have := HT.out.lt); omega⟩; clear ORD; have ORD := ORD_; clear ORD_; have n0_ : Aside0 (Below w.heap.size w w_gB8) := ⟨Hx.bb_below hb_ (by first | exact HB.out | exact below_drew1 HB.out | exact pw_below_drewN HB.out _)⟩; have n1_ : Aside0 (w_gB8.heap[gB3]? = some (.cells #[.int .i64 a0, .int .i64 a1, .int .i64 a2] 41 (0, 0))) := ⟨Hx.b_below hb_ B3.out⟩; have n2_ : Aside0 (w_gB8.heap[gB4]? = some (.cells #[.int .i64 a3] 3 (0, 0))) := ⟨Hx.b_below hb_ B4.out⟩; have n3_ : Aside0 (w_gB8.heap[gB5]? = some (.cells #[.int .i64 a4] 3 (0, 0))) := ⟨Hx.b_below hb_ B5.out⟩; have n4_ : Aside0 (Cst w_gB8 bc_ (CP.mk a0 a1 a2)) := ⟨CT.below HT.out hb_⟩; have m0_ : Aside0 (w_gB8.heap[gB8]? = some (.cells #[.pointer none] 85 (0, 0))) := ⟨BK_⟩; (try clear cB3_0 dB3_0 cB3_1 dB3_1 cB3_2 dB3_2 cB4_0 dB4_0 cB5_0 dB5_0); (try clear HB); (try clear B3); (try clear B4); (try clear B5); (try clear HT); have HB := n0_; have B3 := n1_; have B4 := n2_; have B5 := n3_; have HT := n4_; have B8 := m0_; clear n0_ n1_ n2_ n3_ n4_ m0_; have cB3_0 : w_gB8.cell? ⟨gB3, 0, none⟩ = some (.int .i64 a0) := (blk_cell B3.out 0).trans rfl; have dB3_0 := blk_frozen B3.out 0; have cB3_1 : w_gB8.cell? ⟨gB3, 1, none⟩ = some (.int .i64 a1) := (blk_cell B3.out 1).trans rfl; have dB3_1 := blk_frozen B3.out 1; have cB3_2 : w_gB8.cell? ⟨gB3, 2, none⟩ = some (.int .i64 a2) := (blk_cell B3.out 2).trans rfl; have dB3_2 := blk_frozen B3.out 2; have cB4_0 : w_gB8.cell? ⟨gB4, 0, none⟩ = some (.int .i64 a3) := (blk_cell B4.out 0).trans rfl; have dB4_0 := blk_frozen B4.out 0; have cB5_0 : w_gB8.cell? ⟨gB5, 0, none⟩ = some (.int .i64 a4) := (blk_cell B5.out 0).trans rfl; have dB5_0 := blk_frozen B5.out 0; have cB8_0 : w_gB8.cell? ⟨gB8, 0, none⟩ = some (.pointer none) := (blk_cell B8.out 0).trans rfl; have dB8_0 := blk_frozen B8.out 0; clear hg_ BK_ hb_) | ((with_reducible refine gate_store (t := 85) (p := 8) rfl ?_); refine store_event (t := 85) (p := 8) (v := ?vo_w5) (w1 := ((w_gB8).setCell ⟨gB8, 0, none⟩ (.pointer (some ⟨bc_, 0, none⟩)))) ?hg ?ho ?hn ?hr ?_; (case ho => rfl); (case hg => rfl); (case hn => rfl); (case hr => first | (go_simp; done) | (go_simp; rfl)); intro w_5 hw_; have n0_ : Aside0 (Below w.heap.size w w_5) := ⟨by rw [hw_]; exact below_set (g := gB8) HB.out (by have := ORD.out; omega)⟩; have n1_ : Aside0 (w_5.heap[gB3]? = some (.cells #[.int .i64 a0, .int .i64 a1, .int .i64 a2] 41 (0, 0))) := ⟨by rw [hw_]; exact blk_far B3.out (show gB3 ≠ gB8 by have := ORD.out; omega) _⟩; have n2_ : Aside0 (w_5.heap[gB4]? = some (.cells #[.int .i64 a3] 3 (0, 0))) := ⟨by rw [hw_]; exact blk_far B4.out (show gB4 ≠ gB8 by have := ORD.out; omega) _⟩; have n3_ : Aside0 (w_5.heap[gB5]? = some (.cells #[.int .i64 a4] 3 (0, 0))) := ⟨by rw [hw_]; exact blk_far B5.out (show gB5 ≠ gB8 by have := ORD.out; omega) _⟩; have n4_ : Aside0 (Cst w_5 bc_ (CP.mk a0 a1 a2)) := ⟨by rw [hw_]; exact CT.far HT.out (show bc_ ≠ gB8 by have := ORD.out; omega) 0 _⟩; have n5_ : Aside0 (w_5.heap[gB8]? = some (.cells #[.pointer (some ⟨bc_, 0, none⟩)] 85 (0, 0))) := ⟨by rw [hw_]; exact blk_put B8.out 0 _ rfl⟩; (try clear cB3_0 dB3_0 cB3_1 dB3_1 cB3_2 dB3_2 cB4_0 dB4_0 cB5_0 dB5_0 cB8_0 dB8_0); (try clear HB); (try clear B3); (try clear B4); (try clear B5); (try clear HT); (try clear B8); have HB := n0_; have B3 := n1_; have B4 := n2_; have B5 := n3_; have HT := n4_; have B8 := n5_; clear n0_ n1_ n2_ n3_ n4_ n5_; have cB3_0 : w_5.cell? ⟨gB3, 0, none⟩ = some (.int .i64 a0) := (blk_cell B3.out 0).trans rfl; have dB3_0 := blk_frozen B3.out 0; have cB3_1 : w_5.cell? ⟨gB3, 1, none⟩ = some (.int .i64 a1) := (blk_cell B3.out 1).trans rfl; have dB3_1 := blk_frozen B3.out 1; have cB3_2 : w_5.cell? ⟨gB3, 2, none⟩ = some (.int .i64 a2) := (blk_cell B3.out 2).trans rfl; have dB3_2 := blk_frozen B3.out 2; have cB4_0 : w_5.cell? ⟨gB4, 0, none⟩ = some (.int .i64 a3) := (blk_cell B4.out 0).trans rfl; have dB4_0 := blk_frozen B4.out 0; have cB5_0 : w_5.cell? ⟨gB5, 0, none⟩ = some (.int .i64 a4) := (blk_cell B5.out 0).trans rfl; have dB5_0 := blk_frozen B5.out 0; have cB8_0 : w_5.cell? ⟨gB8, 0, none⟩ = some (.pointer (some ⟨bc_, 0, none⟩)) := (blk_cell B8.out 0).trans rfl; have dB8_0 := blk_frozen B8.out 0; clear hw_ ) | ((with_reducible refine gate_callee (f := 77) rfl ?_); refine goesL_ (some 18) rfl rfl Try.func77 (by kernel_rfl) rfl #[.int .i64 a4, .func (.func 78) #[] #[.pointer (some ⟨gB3, 0, none⟩), .pointer (some ⟨gB8, 0, none⟩), .pointer (some ⟨gB4, 0, none⟩), .pointer (some ⟨gB5, 0, none⟩)]] rfl (by (try simp only [List.map_toArray, List.map_cons, List.map_nil]); first | done | rfl) ?_; refine (greatA a0 a1 a2 a3 a4 HA.out HT.out B3.out B8.out B4.out B5.out).mono ?_; rintro e_ w_6 ⟨vr_, rfl, ho_, hb_⟩; refine ⟨_, rfl, ?_⟩; have n0_ : Aside0 (Below w.heap.size w w_6) := ⟨Hx.bb_below hb_ (by first | exact HB.out | exact below_drew1 HB.out | exact pw_below_drewN HB.out _)⟩; have n1_ : Aside0 (w_6.heap[gB3]? = some (.cells #[.int .i64 a0, .int .i64 a1, .int .i64 a2] 41 (0, 0))) := ⟨Hx.b_below hb_ B3.out⟩; have n2_ : Aside0 (w_6.heap[gB4]? = some (.cells #[.int .i64 a3] 3 (0, 0))) := ⟨Hx.b_below hb_ B4.out⟩; have n3_ : Aside0 (w_6.heap[gB5]? = some (.cells #[.int .i64 a4] 3 (0, 0))) := ⟨Hx.b_below hb_ B5.out⟩; have n4_ : Aside0 (Cst w_6 bc_ (CP.mk a0 a1 a2)) := ⟨CT.below HT.out hb_⟩; have n5_ : Aside0 (w_6.heap[gB8]? = some (.cells #[.pointer (some ⟨bc_, 0, none⟩)] 85 (0, 0))) := ⟨Hx.b_below hb_ B8.out⟩; have m0_ : Aside0 (Kd.R (Kd.int .i64) 3 w_6 w.heap.size (fun _ => True) vr_ (gOut (costB (CP.mk a0 a1 a2) a3.toNat a4.toNat) (a4.toNat + 1)).1) := ⟨Kd.R_lower ho_ (by have := HB.out.size; omega)⟩; (try clear cB3_0 dB3_0 cB3_1 dB3_1 cB3_2 dB3_2 cB4_0 dB4_0 cB5_0 dB5_0 cB8_0 dB8_0); (try clear HB); (try clear B3); (try clear B4); (try clear B5); (try clear HT); (try clear B8); have HB := n0_; have B3 := n1_; have B4 := n2_; have B5 := n3_; have HT := n4_; have B8 := n5_; have HO := m0_; clear n0_ n1_ n2_ n3_ n4_ n5_ m0_; have cB3_0 : w_6.cell? ⟨gB3, 0, none⟩ = some (.int .i64 a0) := (blk_cell B3.out 0).trans rfl; have dB3_0 := blk_frozen B3.out 0; have cB3_1 : w_6.cell? ⟨gB3, 1, none⟩ = some (.int .i64 a1) := (blk_cell B3.out 1).trans rfl; have dB3_1 := blk_frozen B3.out 1; have cB3_2 : w_6.cell? ⟨gB3, 2, none⟩ = some (.int .i64 a2) := (blk_cell B3.out 2).trans rfl; have dB3_2 := blk_frozen B3.out 2; have cB4_0 : w_6.cell? ⟨gB4, 0, none⟩ = some (.int .i64 a3) := (blk_cell B4.out 0).trans rfl; have dB4_0 := blk_frozen B4.out 0; have cB5_0 : w_6.cell? ⟨gB5, 0, none⟩ = some (.int .i64 a4) := (blk_cell B5.out 0).trans rfl; have dB5_0 := blk_frozen B5.out 0; have cB8_0 : w_6.cell? ⟨gB8, 0, none⟩ = some (.pointer (some ⟨bc_, 0, none⟩)) := (blk_cell B8.out 0).trans rfl; have dB8_0 := blk_frozen B8.out 0; clear hb_ ho_))
    go_ret2
    exact ⟨_, rfl, HO.out, HB.out⟩


-- FOR (*spec.csTable).floors
-- CALLS (*spec.csTable).by ; (*spec.csTable).least ; spec.csCan ; (*impl.coster).floors
-- USES info int
-- USES info []int

set_option maxHeartbeats 8000000 in
set_option maxRecDepth 100000 in
theorem csfloors.calls (w : World) (g : Nat) (p : CP) (t : TS) (V : Bool → Nat → Nat → Int) (e n s : Nat) (hb : Bx w g p t) (hR : Rows w t V) (hp : p.Ok) (hd : 1 ≤ e ∧ e ≤ t.E ∧ t.E ≤ 10 ∧ 1 ≤ n ∧ n ≤ t.N ∧ t.N ≤ 60 ∧ s ≤ 1)
    (hL : ∀ m, m < n → V false e m = cst p e m 0) (hH : ∀ m, m < n → (2 ≤ e ∨ m = 0) → V true (e - 1) m = cst p (e - 1) m 1) :
    Calls Try.prog 110 #[.pointer (some ⟨g, 0, none⟩), .int .i64 (e : Int), .int .i64 (n : Int), .int .i64 (if s = 1 then (n : Int) + 1 else 0)] w fun e_ w' => ∃ v, e_ = .returned v ∧ Kd.R (Kd.int .i64) 3 w' w.heap.size (fun _ => True) v (cFloors p e n s) ∧ Below w.heap.size w w' := by
  have FB : Aside0 (∀ f, 1 ≤ f → f ≤ n → (2 ≤ e ∨ f = 1) → ∀ W, Below w.heap.size w W → Calls Try.prog 144 #[.pointer (some ⟨g, 0, none⟩), .int .i64 (e : Int), .int .i64 (n : Int), .int .i64 (if s = 1 then (n : Int) + 1 else 0), .int .i64 (f : Int)] W fun e_ w' => e_ = .returned (.int .i64 (cFst p e n s f)) ∧ Below W.heap.size W w') := ⟨fun f h1 h2 h3 W hW => csby.calls W g p t V e n s f (hb.below hW) (hR.below hW) hp (by omega) (hL _ (by omega)) (hH _ (by omega) (by omega))⟩
  have FL : Aside0 (∀ W, Below w.heap.size w W → Calls Try.prog 109 #[.pointer (some ⟨g, 0, none⟩), .int .i64 (e : Int), .int .i64 (n : Int), .int .i64 (if s = 1 then (n : Int) + 1 else 0)] W fun e_ w' => e_ = .returned (.int .i64 (cst p e n s)) ∧ Below W.heap.size W w') := ⟨fun W hW => csleast.calls W g p t V e n s (hb.below hW) (hR.below hW) hp (by omega) hL hH⟩
  have HE : Aside0 (1 ≤ e ∧ e ≤ 10 ∧ 1 ≤ n ∧ n ≤ 60 ∧ s ≤ 1) := ⟨by omega⟩
  have HP := Aside0.mk hp
  obtain ⟨frm, hfr⟩ : ∃ frm : Int, frm = (if s = 1 then (n : Int) + 1 else 0) := ⟨_, rfl⟩
  rw [← hfr] at FB FL ⊢
  obtain ⟨c, hc⟩ : ∃ c, c = cst p e n s := ⟨_, rfl⟩
  obtain ⟨q, hq⟩ : ∃ q : Nat → Bool, q = fun f => decide (cFst p e n s f = cst p e n s) := ⟨_, rfl⟩
  have HQ := Aside0.mk (And.intro hc hq)
  unfold cFloors
  rw [← hq]
  rw [← hc] at FL
  clear hb hR hp hd hL hH hfr hc hq
  go_enter Try.func110, Try.ntmps110
  go_wp2
  go_loopg [9, 10] n (fun k v9 v10 w' => ∃ f : Nat, v10 = .int .i64 ((f : Int) + 1) ∧ Aside0 (f + k = n) ∧ Aside0 (Kd.R (Kd.int .i64) 3 w' w.heap.size (fun _ => True) v9 (flr q f)) ∧ Aside0 (Below w.heap.size w w'))
  case atStart => exact ⟨0, rfl, ⟨by omega⟩, ⟨Kd.R_nil _ _ _ _ _⟩, ⟨by repeat (first | exact Below.refl _ _ | refine below_alloc ?_ _)⟩⟩
  case round =>
    obtain ⟨f0, rfl, HK, HO, HB⟩ := hrel
    by_cases hlf : f0 < n
    · obtain ⟨f, hf⟩ : ∃ f, f = f0 + 1 := ⟨_, rfl⟩
      have hf2 : (f0 : Int) + 1 = (f : Int) := by omega
      rw [hf2]
      have d4 : decide ((f : Int) ≤ (n : Int)) = true := decide_eq_true (by omega)
      have d6 : (f ≤ n) = True := eq_true (by omega)
      have wf0 : IntKind.i64.wrap ((f : Int) - 1) = (f0 : Int) := (Hw.wrap_w (by omega) (by have := HE.out; omega)).trans (by omega)
      have wf : IntKind.i64.wrap ((f : Int) + 1) = (f : Int) + 1 := Hw.wrap_w (by omega) (by have := HE.out; omega)
      obtain ⟨x, hx⟩ : ∃ x, x = cFst p e n s f := ⟨_, rfl⟩
      obtain ⟨xs, hxs⟩ : ∃ xs, xs = flr q f0 := ⟨_, rfl⟩
      rw [← hxs] at HO
      have HCan := Aside0.mk (csCan_is e f0)
      have HM := Aside0.mk (And.intro hx (And.intro hxs (And.intro hf hlf)))
      by_cases hc : 2 ≤ e ∨ f0 = 0
      · rw [decide_eq_true hc] at HCan
        have FC := Aside0.mk (FB.out f (by omega) (by omega) (by omega))
        rw [← hx] at FC
        by_cases hxc : x = c
        · have hxb : (x == c) = true := by rw [hxc]; simp
          have hqf : q f = true := by rw [HQ.out.2]; exact decide_eq_true (by rw [← HM.out.1, ← HQ.out.1]; exact hxc)
          obtain ⟨y, hy⟩ : ∃ y, y = xs ++ [(f : Int)] := ⟨_, rfl⟩
          have Ny := Aside0.mk hy
          have HF : Aside0 (flr q f = y) := ⟨by rw [hy, HM.out.2.2.1, flr, if_pos (by rw [← HM.out.2.2.1]; exact hqf), ← HM.out.2.1]⟩
          clear hxc hqf hy hlf hf hf2 hx hxs hc
          go_wp2_with (first | ((with_reducible refine gate_callee (f := 143) rfl ?_); refine goesL_ (some 19) rfl rfl Try.func143 (by kernel_rfl) rfl #[.int .i64 (e : Int), .int .i64 (f0 : Int)] rfl (by (try simp only [List.map_toArray, List.map_cons, List.map_nil]); first | done | rfl) ?_; refine (spec_csCan.calls _ _ true _ HCan.out).mono ?_; rintro e_ w_1 ⟨rfl, hd_⟩; refine ⟨_, rfl, ?_⟩; have hb_ := hd_.below; clear hd_; have hB_ := Hx.bb_below hb_ HB.out; have hO_ := Kd.R_below HO.out hb_; clear HB HO; have HB := Aside0.mk hB_; have HO := Aside0.mk hO_; clear hB_ hO_ hb_) | (go_at_call 144; refine (FC.out _ HB.out).mono ?_; rintro e_ w_2 ⟨rfl, hb_⟩; have hB_ := Hx.bb_below hb_ HB.out; have hO_ := Kd.R_below HO.out hb_; clear HB HO; have HB := Aside0.mk hB_; have HO := Aside0.mk hO_; clear hB_ hO_ hb_) | (go_at_call 109; refine (FL.out _ HB.out).mono ?_; rintro e_ w_3 ⟨rfl, hb_⟩; have hB_ := Hx.bb_below hb_ HB.out; have hO_ := Kd.R_below HO.out hb_; clear HB HO; have HB := Aside0.mk hB_; have HO := Aside0.mk hO_; clear hB_ hO_ hb_) | ((with_reducible refine gate_builtin (b := .append) (xs := #[.tmp 34, .tmp 36]) rfl ?_); at_builtin; refine Kd.R_append (Kd.int .i64) (w0 := w) w.heap.size rfl (.tmp 34) (.tmp 36) 46 3 (.int .i64 0) 8 rfl Try.underlying46 info3 rfl (by decide) (by omega) u9 xs (f : Int) [.int .i64 ((f : Int))] (fun _ => True) (fun _ => False) rfl rfl ?aP (fun _ hk => hk.elim) ?aF ?aO ?aB ?aS ?aL ?_; (case aP => exact rfl); (case aB => exact (by repeat (first | (with_reducible first | exact HB.out | apply below_alloc | apply pw_below_drewN | apply below_drew1) | exact HB.out))); (case aF => exact (fun _ _ => trivial)); (case aO => exact (by (with_reducible repeat (first | apply Kd.R_alloc | apply Kd.R_drewN | apply Kd.R_drew)); exact HO.out)); (case aS => exact (below_size (by repeat (first | (with_reducible first | exact HB.out | apply below_alloc | apply pw_below_drewN | apply below_drew1) | exact HB.out)))); (case aL => have := HM.out; have h_ := flr_len q f0; rw [← HM.out.2.1] at h_; have := HE.out; omega); intro v2_ w_4 ho hb hg hat; rw [← Ny.out] at ho; clear HB HO; have HB := Aside0.mk hb; have HO := Aside0.mk ho; clear ho hb hg hat))
          go_roundg (n - f)
          case measure => have := HK.out; have := HM.out; omega
          case rel => exact ⟨f, rfl, ⟨by have := HK.out; have := HM.out; omega⟩, ⟨by rw [HF.out]; exact HO.out⟩, HB⟩
        · have hxb : (x == c) = false := by simpa using hxc
          have hqf : q f = false := by rw [HQ.out.2]; exact decide_eq_false (by rw [← HM.out.1, ← HQ.out.1]; exact hxc)
          have HF : Aside0 (flr q f = xs) := ⟨by rw [HM.out.2.2.1, flr, if_neg (by rw [← HM.out.2.2.1, hqf]; decide), ← HM.out.2.1, List.append_nil]⟩
          clear hxc hqf hlf hf hf2 hx hxs hc
          go_wp2_with (first | ((with_reducible refine gate_callee (f := 143) rfl ?_); refine goesL_ (some 19) rfl rfl Try.func143 (by kernel_rfl) rfl #[.int .i64 (e : Int), .int .i64 (f0 : Int)] rfl (by (try simp only [List.map_toArray, List.map_cons, List.map_nil]); first | done | rfl) ?_; refine (spec_csCan.calls _ _ true _ HCan.out).mono ?_; rintro e_ w_1 ⟨rfl, hd_⟩; refine ⟨_, rfl, ?_⟩; have hb_ := hd_.below; clear hd_; have hB_ := Hx.bb_below hb_ HB.out; have hO_ := Kd.R_below HO.out hb_; clear HB HO; have HB := Aside0.mk hB_; have HO := Aside0.mk hO_; clear hB_ hO_ hb_) | (go_at_call 144; refine (FC.out _ HB.out).mono ?_; rintro e_ w_2 ⟨rfl, hb_⟩; have hB_ := Hx.bb_below hb_ HB.out; have hO_ := Kd.R_below HO.out hb_; clear HB HO; have HB := Aside0.mk hB_; have HO := Aside0.mk hO_; clear hB_ hO_ hb_) | (go_at_call 109; refine (FL.out _ HB.out).mono ?_; rintro e_ w_3 ⟨rfl, hb_⟩; have hB_ := Hx.bb_below hb_ HB.out; have hO_ := Kd.R_below HO.out hb_; clear HB HO; have HB := Aside0.mk hB_; have HO := Aside0.mk hO_; clear hB_ hO_ hb_))
          go_roundg (n - f)
          case measure => have := HK.out; have := HM.out; omega
          case rel => exact ⟨f, rfl, ⟨by have := HK.out; have := HM.out; omega⟩, ⟨by rw [HF.out]; exact HO.out⟩, HB⟩
      · rw [decide_eq_false hc] at HCan
        have hqf : q f = false := by
          rw [HQ.out.2]
          have he1 : e = 1 := by have := HE.out; omega
          have h1 := cFst_no HP.out (n := n) (s := s) (f := f) (by omega) (by omega) (by have := HE.out; omega)
          have h2 := cst_fin' HP.out (e := e) (by omega) (n := n) s (by have := HE.out; omega)
          refine decide_eq_false ?_
          rw [← he1] at h1
          unfold cNever at h1
          omega
        have HF : Aside0 (flr q f = xs) := ⟨by rw [HM.out.2.2.1, flr, if_neg (by rw [← HM.out.2.2.1, hqf]; decide), ← HM.out.2.1, List.append_nil]⟩
        clear hqf hlf hf hf2 hx hxs hc
        go_wp2_with (first | ((with_reducible refine gate_callee (f := 143) rfl ?_); refine goesL_ (some 19) rfl rfl Try.func143 (by kernel_rfl) rfl #[.int .i64 (e : Int), .int .i64 (f0 : Int)] rfl (by (try simp only [List.map_toArray, List.map_cons, List.map_nil]); first | done | rfl) ?_; refine (spec_csCan.calls _ _ false _ HCan.out).mono ?_; rintro e_ w_1 ⟨rfl, hd_⟩; refine ⟨_, rfl, ?_⟩; have hb_ := hd_.below; clear hd_; have hB_ := Hx.bb_below hb_ HB.out; have hO_ := Kd.R_below HO.out hb_; clear HB HO; have HB := Aside0.mk hB_; have HO := Aside0.mk hO_; clear hB_ hO_ hb_))
        go_roundg (n - f)
        case measure => have := HK.out; have := HM.out; omega
        case rel => exact ⟨f, rfl, ⟨by have := HK.out; have := HM.out; omega⟩, ⟨by rw [HF.out]; exact HO.out⟩, HB⟩
    · have d4 : decide ((f0 : Int) + 1 ≤ (n : Int)) = false := decide_eq_false (by omega)
      have d6 : ((f0 : Int) + 1 ≤ (n : Int)) = False := eq_false (by omega)
      have HF : Aside0 (flr q f0 = flr q n) := ⟨by rw [show f0 = n by have := HK.out; omega]⟩
      clear hlf
      go_wp2
      go_ret
      exact ⟨_, rfl, by rw [← HF.out]; exact HO.out, HB.out⟩


-- FOR (*spec.csTable).play
-- CALLS (*spec.csTable).floors ; (*impl.coster).drops ; spec.csMake
-- USES kd impl.Drop
-- USES info impl.Drop
-- USES info int

set_option maxHeartbeats 8000000 in
set_option maxRecDepth 1000000 in
theorem csplay.calls (w : World) (g : Nat) (p : CP) (t : TS) (V : Bool → Nat → Nat → Int) (e0 n0 : Nat) (br : Int) (hb : Bx w g p t) (hR : Rows w t V) (hp : p.Ok) (hd : 1 ≤ e0 ∧ e0 ≤ t.E ∧ t.E ≤ 10 ∧ n0 ≤ t.N ∧ t.N ≤ 60)
    (hV : ∀ e m, e ≤ t.E → m ≤ t.N → (m = 0 ∨ 1 ≤ e) → V false e m = cst p e m 0 ∧ V true e m = cst p e m 1) :
    Calls Try.prog 70 #[.pointer (some ⟨g, 0, none⟩), .int .i64 (e0 : Int), .int .i64 (n0 : Int), .int .i64 br] w fun e_ w' => ∃ v, e_ = .returned v ∧ Kd.R k89 89 w' w.heap.size (fun _ => True) v (cDrops p br n0 e0 n0 0 0) ∧ Below w.heap.size w w' := by
  have hu := Try.underlying89
  have HP := Aside0.mk hp
  have FB : Aside0 (∀ e n s, 1 ≤ e → e ≤ e0 → 1 ≤ n → n ≤ n0 → s ≤ 1 → ∀ W, Below w.heap.size w W → Calls Try.prog 110 #[.pointer (some ⟨g, 0, none⟩), .int .i64 (e : Int), .int .i64 (n : Int), .int .i64 (if s = 1 then (n : Int) + 1 else 0)] W fun e_ w' => ∃ v, e_ = .returned v ∧ Kd.R (Kd.int .i64) 3 w' W.heap.size (fun _ => True) v (cFloors p e n s) ∧ Below W.heap.size W w') := ⟨fun e n s h1 h2 h3 h4 h5 W hW => csfloors.calls W g p t V e n s (hb.below hW) (hR.below hW) hp (by omega) (fun m hm => (hV e m (by omega) (by omega) (by omega)).1) (fun m hm h_ => (hV (e - 1) m (by omega) (by omega) (by omega)).2)⟩
  have HE : Aside0 (1 ≤ e0 ∧ e0 ≤ 10 ∧ n0 ≤ 60) := ⟨by omega⟩
  clear hp hb hR hd hV
  go_enter Try.func70, Try.ntmps70
  go_wp2
  go_loopg [1, 9, 10, 11, 12] n0 (fun k v1 v9 v10 v11 v12 w' => ∃ (e n lo s : Nat) (xs : List S89), v1 = .int .i64 (e : Int) ∧ v9 = .int .i64 (lo : Int) ∧ v10 = .int .i64 ((lo + n : Nat) : Int) ∧ v11 = .int .i64 ((lo : Int) + (if s = 1 then (n : Int) + 1 else 0)) ∧ Aside0 (n ≤ k ∧ k ≤ n0 ∧ lo + n ≤ n0 ∧ (1 ≤ e ∨ n = 0) ∧ e ≤ e0 ∧ s ≤ 1 ∧ xs.length + k ≤ n0) ∧ Aside0 (xs ++ cDrops p br k e n lo s = cDrops p br n0 e0 n0 0 0) ∧ Aside0 (Kd.R k89 89 w' w.heap.size (fun _ => True) v12 xs) ∧ Aside0 (Below w.heap.size w w'))
  case atStart => exact ⟨e0, n0, 0, 0, [], rfl, rfl, by rw [Nat.zero_add], rfl, ⟨by have := HE.out; simp; omega⟩, ⟨rfl⟩, ⟨Kd.R_nil _ _ _ _ _⟩, ⟨by repeat (first | exact Below.refl _ _ | refine below_alloc ?_ _)⟩⟩
  case round =>
    obtain ⟨e, n, lo, s, xs, rfl, rfl, rfl, rfl, HK, HL, HO, HB⟩ := hrel
    obtain ⟨frm, hfr⟩ : ∃ frm : Int, frm = (if s = 1 then (n : Int) + 1 else 0) := ⟨_, rfl⟩
    have hfb : 0 ≤ frm ∧ frm ≤ 61 := by have := HK.out; have := HE.out; rw [hfr]; split <;> omega
    obtain ⟨ms, hms⟩ : ∃ ms : Int, ms = ((lo + n : Nat) : Int) := ⟨_, rfl⟩
    rw [← hfr, ← hms]
    by_cases hlt : 0 < n
    · have d1 : decide ((lo : Int) < ms) = true := decide_eq_true (by omega)
      have d1' : ((lo : Int) < ms) = True := eq_true (by omega)
      obtain ⟨k1, rfl⟩ : ∃ k1, gk = k1 + 1 := ⟨gk - 1, by have := HK.out; omega⟩
      obtain ⟨r, hr, hf1, hf2, hf3⟩ := cFloors_is HP.out (e := e) (n := n) s (by have := HK.out; omega) hlt (by have := HK.out; have := HE.out; omega)
      have hL := HL.out
      rw [cDrops, if_neg (by omega)] at hL
      have FC := Aside0.mk (FB.out e n s (by have := HK.out; omega) (by have := HK.out; omega) hlt (by have := HK.out; omega) (by have := HK.out; omega))
      rw [← hfr] at FC
      obtain ⟨f, hf⟩ : ∃ f, f = cHead p e n s := ⟨_, rfl⟩
      rw [← hf] at hr hf1 hf2 hf3 hL
      obtain ⟨z, hz⟩ : ∃ z : Int, z = (lo : Int) + f := ⟨_, rfl⟩
      have hz2 : ((lo + f : Nat) : Int) = z := by omega
      rw [hz2] at hL
      have w1 : IntKind.i64.wrap ((lo : Int) + f) = z := by rw [hz]; exact Hw.wrap_w (by omega) (by have := HK.out; have := HE.out; omega)
      have w2 : IntKind.i64.wrap (ms - (lo : Int)) = (n : Int) := (Hw.wrap_w (by omega) (by have := HK.out; have := HE.out; omega)).trans (by omega)
      have w2' : IntKind.i64.wrap ((lo : Int) + frm - (lo : Int)) = frm := (Hw.wrap_w (by omega) (by have := HK.out; have := HE.out; omega)).trans (by omega)
      have w3 : IntKind.i64.wrap (z - 1) = ((lo + (f - 1) : Nat) : Int) := (Hw.wrap_w (by omega) (by have := HK.out; have := HE.out; omega)).trans (by omega)
      have w4 : IntKind.i64.wrap ((e : Int) - 1) = ((e - 1 : Nat) : Int) := (Hw.wrap_w (by omega) (by have := HK.out; have := HE.out; omega)).trans (by have := HK.out; omega)
      have FR := Aside0.mk hr
      have HF := Aside0.mk (And.intro hf1 (And.intro hf2 (And.intro hf3 (And.intro hz (And.intro hlt hms)))))
      obtain ⟨y, hy⟩ : ∃ y : List S89, y = xs ++ [⟨z, decide (br < z)⟩] := ⟨_, rfl⟩
      have Ny := Aside0.mk hy
      have HL2 : Aside0 (y ++ (if br < z then cDrops p br k1 (e - 1) (f - 1) lo 1 else cDrops p br k1 e (n - f) (lo + f) 0) = cDrops p br n0 e0 n0 0 0) := ⟨by rw [← hL, hy]; simp⟩
      clear HL hr hL hf hf1 hf2 hf3 hz hlt hy hfr hfb hms hz2
      by_cases hc : br < z
      · have d2 : decide (br < z) = true := decide_eq_true hc
        rw [if_pos hc] at HL2
        rw [d2] at Ny
        have HX := Aside0.mk hc
        clear hc
        go_wp2_with (first | ((with_reducible refine gate_callee (f := 110) rfl ?_); refine goesL_ (some 28) rfl rfl Try.func110 (by kernel_rfl) rfl #[.pointer (some ⟨g, 0, none⟩), .int .i64 (e : Int), .int .i64 (n : Int), .int .i64 frm] rfl (by (try simp only [List.map_toArray, List.map_cons, List.map_nil]); first | done | rfl) ?_; refine (FC.out _ HB.out).mono ?_; rintro e_ w_1 ⟨v1_, rfl, hr_, hb_⟩; refine ⟨_, rfl, ?_⟩; have ho_ := Kd.R_below HO.out hb_; have hB := Hx.bb_below hb_ HB.out; clear HO HB; have HO := Aside0.mk ho_; have HB := Aside0.mk hB; rw [FR.out] at hr_; obtain ⟨g1_, cap1_, ev_, hg1_, hg2_, _⟩ := Kd.R_form hr_ (by simp); subst ev_; obtain ⟨c1_, c2_⟩ := Kd.R_celln 0 hr_ 0 (by omega) (by simp); simp only [Int.toNat_zero] at c1_ c2_; replace c1_ := c1_.trans (show _ = some (Value.int .i64 (f : Int)) from rfl); clear ho_ hB hb_ hr_) | ((with_reducible refine gate_builtin (b := .append) (xs := #[.tmp 35, .tmp 39]) rfl ?_); at_builtin; refine Kd.R_append k89 (w0 := w) w.heap.size rfl (.tmp 35) (.tmp 39) 38 89 (.agg #[(.int .i64 0), (.bool false)]) 16 rfl Try.underlying38 info89 rfl (by decide) (by omega) u12 xs (⟨z, true⟩ : S89) [.int .i64 z, .bool true] (fun _ => True) (fun _ => False) rfl rfl ?aP (fun _ hk => hk.elim) ?aF ?aO ?aB ?aS ?aL ?_; (case aP => exact k89_mkM _ _ _ (⟨z, true⟩ : S89)); (case aB => exact (by repeat (first | (with_reducible first | exact HB.out | apply below_alloc | apply pw_below_drewN | apply below_drew1) | exact HB.out))); (case aF => exact (fun _ _ => trivial)); (case aO => exact (by (with_reducible repeat (first | apply Kd.R_alloc | apply Kd.R_drewN | apply Kd.R_drew)); exact HO.out)); (case aS => exact (below_size (by repeat (first | (with_reducible first | exact HB.out | apply below_alloc | apply pw_below_drewN | apply below_drew1) | exact HB.out)))); (case aL => have := HK.out; have := HE.out; omega); intro v2_ w_2 ho hb hg hat; rw [← Ny.out] at ho; clear HB HO; have HB := Aside0.mk hb; have HO := Aside0.mk ho; clear ho hb hg hat))
        go_roundg k1
        case measure => omega
        case rel => exact ⟨e - 1, f - 1, lo, 1, y, rfl, rfl, rfl, congrArg (Value.int .i64) (by rw [if_pos rfl]; have := HF.out; omega), ⟨by have := HK.out; have := HF.out; have h_ : y.length = xs.length + 1 := (by rw [Ny.out]; simp); omega⟩, HL2, HO, HB⟩
      · have d2 : decide (br < z) = false := decide_eq_false hc
        rw [if_neg hc] at HL2
        rw [d2] at Ny
        have HX := Aside0.mk hc
        clear hc
        go_wp2_with (first | ((with_reducible refine gate_callee (f := 110) rfl ?_); refine goesL_ (some 28) rfl rfl Try.func110 (by kernel_rfl) rfl #[.pointer (some ⟨g, 0, none⟩), .int .i64 (e : Int), .int .i64 (n : Int), .int .i64 frm] rfl (by (try simp only [List.map_toArray, List.map_cons, List.map_nil]); first | done | rfl) ?_; refine (FC.out _ HB.out).mono ?_; rintro e_ w_1 ⟨v1_, rfl, hr_, hb_⟩; refine ⟨_, rfl, ?_⟩; have ho_ := Kd.R_below HO.out hb_; have hB := Hx.bb_below hb_ HB.out; clear HO HB; have HO := Aside0.mk ho_; have HB := Aside0.mk hB; rw [FR.out] at hr_; obtain ⟨g1_, cap1_, ev_, hg1_, hg2_, _⟩ := Kd.R_form hr_ (by simp); subst ev_; obtain ⟨c1_, c2_⟩ := Kd.R_celln 0 hr_ 0 (by omega) (by simp); simp only [Int.toNat_zero] at c1_ c2_; replace c1_ := c1_.trans (show _ = some (Value.int .i64 (f : Int)) from rfl); clear ho_ hB hb_ hr_) | ((with_reducible refine gate_builtin (b := .append) (xs := #[.tmp 35, .tmp 39]) rfl ?_); at_builtin; refine Kd.R_append k89 (w0 := w) w.heap.size rfl (.tmp 35) (.tmp 39) 38 89 (.agg #[(.int .i64 0), (.bool false)]) 16 rfl Try.underlying38 info89 rfl (by decide) (by omega) u12 xs (⟨z, false⟩ : S89) [.int .i64 z, .bool false] (fun _ => True) (fun _ => False) rfl rfl ?aP (fun _ hk => hk.elim) ?aF ?aO ?aB ?aS ?aL ?_; (case aP => exact k89_mkM _ _ _ (⟨z, false⟩ : S89)); (case aB => exact (by repeat (first | (with_reducible first | exact HB.out | apply below_alloc | apply pw_below_drewN | apply below_drew1) | exact HB.out))); (case aF => exact (fun _ _ => trivial)); (case aO => exact (by (with_reducible repeat (first | apply Kd.R_alloc | apply Kd.R_drewN | apply Kd.R_drew)); exact HO.out)); (case aS => exact (below_size (by repeat (first | (with_reducible first | exact HB.out | apply below_alloc | apply pw_below_drewN | apply below_drew1) | exact HB.out)))); (case aL => have := HK.out; have := HE.out; omega); intro v2_ w_2 ho hb hg hat; rw [← Ny.out] at ho; clear HB HO; have HB := Aside0.mk hb; have HO := Aside0.mk ho; clear ho hb hg hat))
        go_roundg k1
        case measure => omega
        case rel => exact ⟨e, n - f, lo + f, 0, y, rfl, congrArg (Value.int .i64) (by have := HF.out; omega), congrArg (Value.int .i64) (by have := HF.out; omega), congrArg (Value.int .i64) (by rw [if_neg (by decide)]; have := HF.out; omega), ⟨by have := HK.out; have := HF.out; have h_ : y.length = xs.length + 1 := (by rw [Ny.out]; simp); omega⟩, HL2, HO, HB⟩
    · have d1 : decide ((lo : Int) < ms) = false := decide_eq_false (by omega)
      have d1' : ((lo : Int) < ms) = False := eq_false (by omega)
      have HL2 : Aside0 (xs = cDrops p br n0 e0 n0 0 0) := ⟨by
        rw [← HL.out, show n = 0 by omega]
        cases gk <;> simp [cDrops]⟩
      clear hlt hfr hfb hms
      go_wp2
      go_ret
      exact ⟨_, rfl, by rw [← HL2.out]; exact HO.out, HB.out⟩
def tStr (a3 a4 : Int) (p : CP) (t : TS) (V : Bool → Nat → Nat → Int) (gl gh cl ch nE : Nat) : Prop :=
  t.E = a3.toNat ∧ t.N = a4.toNat ∧ (∀ e m, e ≤ a3.toNat → m ≤ a4.toNat → (m = 0 ∨ 1 ≤ e) → V false e m = cst p e m 0 ∧ V true e m = cst p e m 1) ∧ gl = t.gg false ∧ gh = t.gg true ∧ cl = t.cc false ∧ ch = t.cc true ∧ nE = t.E
theorem cmakeA (a0 a1 a2 a3 a4 : Int) (hA : (0 ≤ a0 ∧ a0 ≤ 1000) ∧ (0 ≤ a1 ∧ a1 ≤ 1000) ∧ (0 ≤ a2 ∧ a2 ≤ 1000) ∧ (1 ≤ a3 ∧ a3 ≤ 10) ∧ (0 ≤ a4 ∧ a4 ≤ 60)) (W : World) :
    Calls Try.prog 69 #[.agg #[.int .i64 a0, .int .i64 a1, .int .i64 a2], .int .i64 a3, .int .i64 a4] W fun e_ w' => ∃ (t : TS) (V : Bool → Nat → Nat → Int) (gl gh cl ch nE : Nat), e_ = .returned (.agg #[.int .i64 a0, .int .i64 a1, .int .i64 a2, .slice (some ⟨gl, 0, none⟩) (nE + 1) cl, .slice (some ⟨gh, 0, none⟩) (nE + 1) ch]) ∧ Rows w' t V ∧ tStr a3 a4 (CP.mk a0 a1 a2) t V gl gh cl ch nE ∧ Below W.heap.size W w' := by
  have h_ := csMake.calls W (CP.mk a0 a1 a2) a3.toNat a4.toNat (by show 0 ≤ a0 ∧ a0 ≤ 1000 ∧ 0 ≤ a1 ∧ a1 ≤ 1000 ∧ 0 ≤ a2 ∧ a2 ≤ 1000; omega) (by omega)
  rw [Int.toNat_of_nonneg (by omega), Int.toNat_of_nonneg (by omega)] at h_
  refine h_.mono ?_
  rintro e_ w' ⟨t, V, rfl, h1, h2, h3, h4, h5⟩
  exact ⟨t, V, _, _, _, _, _, rfl, h3, ⟨h1, h2, h4, rfl, rfl, rfl, rfl, rfl⟩, h5⟩
theorem cplayA (a0 a1 a2 a3 a4 a5 : Int) (hA : (0 ≤ a0 ∧ a0 ≤ 1000) ∧ (0 ≤ a1 ∧ a1 ≤ 1000) ∧ (0 ≤ a2 ∧ a2 ≤ 1000) ∧ (1 ≤ a3 ∧ a3 ≤ 10) ∧ (0 ≤ a4 ∧ a4 ≤ 60)) {W : World} {t : TS} {V : Bool → Nat → Nat → Int} {gl gh cl ch nE g : Nat}
    (hT : tStr a3 a4 (CP.mk a0 a1 a2) t V gl gh cl ch nE) (hR : Rows W t V) (hb : W.heap[g]? = some (.cells #[.int .i64 a0, .int .i64 a1, .int .i64 a2, .slice (some ⟨gl, 0, none⟩) (nE + 1) cl, .slice (some ⟨gh, 0, none⟩) (nE + 1) ch] 81 (0, 0))) :
    Calls Try.prog 70 #[.pointer (some ⟨g, 0, none⟩), .int .i64 a3, .int .i64 a4, .int .i64 a5] W fun e_ w' => ∃ v, e_ = .returned v ∧ Kd.R k89 89 w' W.heap.size (fun _ => True) v (cDrops (CP.mk a0 a1 a2) a5 a4.toNat a3.toNat a4.toNat 0 0) ∧ Below W.heap.size W w' := by
  obtain ⟨h1, h2, h3, rfl, rfl, rfl, rfl, rfl⟩ := hT
  have h_ := csplay.calls W g (CP.mk a0 a1 a2) t V a3.toNat a4.toNat a5 hb hR (by show 0 ≤ a0 ∧ a0 ≤ 1000 ∧ 0 ≤ a1 ∧ a1 ≤ 1000 ∧ 0 ≤ a2 ∧ a2 ≤ 1000; omega) (by omega) (fun e m x y z => h3 e m (by omega) (by omega) z)
  rw [Int.toNat_of_nonneg (by omega), Int.toNat_of_nonneg (by omega)] at h_
  exact h_


end Go.Proofs.Ytoomacelbhojhaa.E
