/- Plain Lean functions with the answers of Go functions, and proofs of it: printed by a program of this session (pr.py) over the kit's print, with hand-written parts. -/
import Derived.Test.YtoomacelbhojhaaAx0
import Derived.Test.YtoomacelbhojhaaAx1
import Derived.Test.YtoomacelbhojhaaAx2
import Derived.Test.YtoomacelbhojhaaAx9
import Derived.Test.YtoomacelbhojhaaAx10
namespace Go.Proofs.Ytoomacelbhojhaa.A
open Go.RowKit Go.Proofs.YtoomacelbhojhaaW.PrintWords Go.Proofs.YtoomacelbhojhaaW.PrintLast Go.Proofs.YtoomacelbhojhaaW.PrintMore
attribute [local go_sem] max2_int min2_int max_two min_two max_three min_three max_four min_four   -- for this text's walks alone
set_option linter.unusedVariables false
set_option linter.unusedSimpArgs false

/-! ### laws_markHouseDropS: function 50 -/
def laws_markHouseDropS.l0 : Nat → List (S104) → Int → Int → Option (Int × (List (S104)))
  | 0, _, _, _ => none
  | k + 1, x0, x1, x5 => if x5 < (x0.length : Int) then (if 0 ≤ x5 then ((some (x0.set (x5 : Int).toNat (⟨x1, (rd_T104 x0 x5).f1, (rd_T104 x0 x5).f2⟩ : S104) : List (S104))).bind fun y158 => ((some (y158.set (x5 : Int).toNat (⟨(rd_T104 y158 x5).f0, wrap64 (x1 + 1), (rd_T104 y158 x5).f2⟩ : S104) : List (S104))).bind fun y159 => (laws_markHouseDropS.l0 k (y159.set (x5 : Int).toNat (⟨(rd_T104 y159 x5).f0, (rd_T104 y159 x5).f1, ((Int.tmod (wrap64 ((wrap64 (x1 + 1)) + 1)) 3) == 0)⟩ : S104)) (wrap64 ((wrap64 ((wrap64 (x1 + 1)) + 1)) + 1)) (wrap64 (x5 + 1))))) else (none)) else (some (x1, x0))
def laws_markHouseDropS.f (k : Nat) (l0 : List (S104)) (a1 : Int) : Option (Int × (List (S104))) := laws_markHouseDropS.l0 k l0 a1 0
theorem laws_markHouseDropS.mono_l : ∀ k, (∀ y0 y1 y2, LeO (laws_markHouseDropS.l0 k y0 y1 y2) (laws_markHouseDropS.l0 (k + 1) y0 y1 y2))
  | 0 => fun _ _ _ r h => by simp [laws_markHouseDropS.l0] at h
  | k + 1 => by
    have ih0 := laws_markHouseDropS.mono_l k
    · intro y0 y1 y2
      unfold laws_markHouseDropS.l0
      repeat' first
      | (with_reducible exact ih0 _ _ _)
      | (with_reducible exact LeO.refl _)
      | (with_reducible exact LeO.none _)
      | (with_reducible refine LeO.ite ?_ ?_)
      | (with_reducible refine LeO.bind ?_ (fun _ => ?_))
      | exact ih0 _ _ _
      | exact LeO.none _
      | refine LeO.ite ?_ ?_
      | refine LeO.bind ?_ (fun _ => ?_)
theorem laws_markHouseDropS.mono : ∀ a0 a1 k, LeO (laws_markHouseDropS.f k a0 a1) (laws_markHouseDropS.f (k + 1) a0 a1) := by
  intro a0 a1 k
  have ih0 := laws_markHouseDropS.mono_l k
  unfold laws_markHouseDropS.f
  repeat' first
      | (with_reducible exact ih0 _ _ _)
      | (with_reducible exact LeO.refl _)
      | (with_reducible exact LeO.none _)
      | (with_reducible refine LeO.ite ?_ ?_)
      | (with_reducible refine LeO.bind ?_ (fun _ => ?_))
      | exact ih0 _ _ _
      | exact LeO.none _
      | refine LeO.ite ?_ ?_
      | refine LeO.bind ?_ (fun _ => ?_)
set_option maxHeartbeats 8000000 in
set_option maxRecDepth 100000 in
theorem laws_markHouseDropS.calls (k : Nat) (P0_ : Nat → Prop) (u9000_ : Value) (l0 : List (S104)) (a1 : Int) (r1 : Int) (r2 : List (S104)) (w0 w : World) (hB : Below w0.heap.size w0 w) (ho0 : Kd.R k104 104 w w0.heap.size P0_ u9000_ l0) (h : laws_markHouseDropS.f k l0 a1 = some (r1, r2)) :
    Calls Try.prog 50 #[u9000_, .int .i64 a1] w fun e w' => e = .returned (.int .i64 r1) ∧ Kd.R k104 104 w' w0.heap.size (fun k_ => (P0_ k_ ∨ w.heap.size ≤ k_)) u9000_ r2 ∧ Below w0.heap.size w0 w' ∧ Kept w w' (fun k_ => P0_ k_) := by
  have HO0 := Aside0.mk (show Kd.R k104 104 w w0.heap.size (fun k_ => (P0_ k_ ∨ w.heap.size ≤ k_)) u9000_ l0 from Kd.R_mono ho0 (fun k_ hk => (.inl hk)))
  have HK := Aside0.mk (Kept.refl w (fun k_ => P0_ k_))
  have HW0 := Aside0.mk hB.size
  have HB := Aside0.mk hB
  clear hB
  have H : (laws_markHouseDropS.l0 k l0 a1 0) = some (r1, r2) := h
  clear h
  have H' := Aside0.mk H
  clear H
  go_enter Try.func50, Try.ntmps50
  go_wp2
  go_loopg [1, 5] k (fun kq v1 v5 w' => ∃ (x0_1 : List (S104)) (x1_1 : Int) (x5_1 : Int), v1 = .int .i64 x1_1 ∧ v5 = .int .i64 x5_1 ∧ Aside0 (laws_markHouseDropS.l0 kq x0_1 x1_1 x5_1 = some (r1, r2)) ∧ Aside0 (kq ≤ k) ∧ Aside0 (Kd.R k104 104 w' w0.heap.size (fun k_ => (P0_ k_ ∨ w.heap.size ≤ k_)) u9000_ x0_1) ∧ Aside0 (Kept w w' (fun k_ => P0_ k_)) ∧ Aside0 (Below w0.heap.size w0 w'))
  case atStart => exact ⟨(l0), (a1), (0), (by first | rfl | (simp; done) | (simp [*]; done)), (by first | rfl | (simp; done) | (simp [*]; done)), H', ⟨Nat.le_refl _⟩, ⟨by (with_reducible repeat (first | apply Kd.R_alloc | apply Kd.R_drewN | apply Kd.R_drew)); exact HO0.out⟩, ⟨by repeat (first | (with_reducible first | exact HK.out | apply Kept.alloc | apply Kept.drewN | apply Kept.drew) | exact HK.out)⟩, ⟨by repeat (first | (with_reducible first | exact HB.out | apply below_alloc | apply pw_below_drewN | apply below_drew1) | exact HB.out)⟩⟩
  case round =>
    clear H'
    try clear p2
    obtain ⟨x0_1, x1_1, x5_1, rfl, rfl, HA, HK1, HO_0, HK, HB⟩ := hrel
    cases gk with
    | zero => exact absurd HA.out (by simp [laws_markHouseDropS.l0])
    | succ k1 =>
      have H := HA.out
      clear HA
      simp only [laws_markHouseDropS.l0] at H
      by_cases c3 : x5_1 < (x0_1.length : Int)
      · rw [if_pos c3] at H
        have c3b0 : decide (x5_1 < (x0_1.length : Int)) = true := decide_eq_true c3
        clear c3
        by_cases c4 : 0 ≤ x5_1
        · rw [if_pos c4] at H
          have c4b0 : decide (0 ≤ x5_1) = true := decide_eq_true c4
          clear c4
          obtain ⟨y158, hy158⟩ : ∃ y_ : List (S104), y_ = (x0_1.set (x5_1 : Int).toNat (⟨x1_1, (rd_T104 x0_1 x5_1).f1, (rd_T104 x0_1 x5_1).f2⟩ : S104)) := ⟨_, rfl⟩
          replace H : ((some (y158.set (x5_1 : Int).toNat (⟨(rd_T104 y158 x5_1).f0, wrap64 (x1_1 + 1), (rd_T104 y158 x5_1).f2⟩ : S104) : List (S104))).bind fun y159 => (laws_markHouseDropS.l0 k1 (y159.set (x5_1 : Int).toNat (⟨(rd_T104 y159 x5_1).f0, (rd_T104 y159 x5_1).f1, ((Int.tmod (wrap64 ((wrap64 (x1_1 + 1)) + 1)) 3) == 0)⟩ : S104)) (wrap64 ((wrap64 ((wrap64 (x1_1 + 1)) + 1)) + 1)) (wrap64 (x5_1 + 1)))) = some (r1, r2) := by first | (rw [hy158]; with_reducible exact H) | (have H2_ := (Option.bind_some _ _).symm.trans H; rw [hy158]; with_reducible exact H2_) | (have H2_ := (Option.bind_some _ _).symm.trans H; with_reducible exact H2_) | with_reducible exact H | (rw [hy158]; exact H) | exact H
          have Ny158 := Aside0.mk hy158
          clear hy158
          obtain ⟨y159, hy159⟩ : ∃ y_ : List (S104), y_ = (y158.set (x5_1 : Int).toNat (⟨(rd_T104 y158 x5_1).f0, wrap64 (x1_1 + 1), (rd_T104 y158 x5_1).f2⟩ : S104)) := ⟨_, rfl⟩
          replace H : (laws_markHouseDropS.l0 k1 (y159.set (x5_1 : Int).toNat (⟨(rd_T104 y159 x5_1).f0, (rd_T104 y159 x5_1).f1, ((Int.tmod (wrap64 ((wrap64 (x1_1 + 1)) + 1)) 3) == 0)⟩ : S104)) (wrap64 ((wrap64 ((wrap64 (x1_1 + 1)) + 1)) + 1)) (wrap64 (x5_1 + 1))) = some (r1, r2) := by first | (rw [hy159]; with_reducible exact H) | (have H2_ := (Option.bind_some _ _).symm.trans H; rw [hy159]; with_reducible exact H2_) | (have H2_ := (Option.bind_some _ _).symm.trans H; with_reducible exact H2_) | with_reducible exact H | (rw [hy159]; exact H) | exact H
          have Ny159 := Aside0.mk hy159
          clear hy159
          obtain ⟨y160, hy160⟩ : ∃ y_ : List (S104), y_ = (y159.set (x5_1 : Int).toNat (⟨(rd_T104 y159 x5_1).f0, (rd_T104 y159 x5_1).f1, ((Int.tmod (wrap64 ((wrap64 (x1_1 + 1)) + 1)) 3) == 0)⟩ : S104)) := ⟨_, rfl⟩
          replace H : (laws_markHouseDropS.l0 k1 y160 (wrap64 ((wrap64 ((wrap64 (x1_1 + 1)) + 1)) + 1)) (wrap64 (x5_1 + 1))) = some (r1, r2) := by first | (rw [hy160]; with_reducible exact H) | (have H2_ := (Option.bind_some _ _).symm.trans H; rw [hy160]; with_reducible exact H2_) | (have H2_ := (Option.bind_some _ _).symm.trans H; with_reducible exact H2_) | with_reducible exact H | (rw [hy160]; exact H) | exact H
          have Ny160 := Aside0.mk hy160
          clear hy160
          have H' := Aside0.mk H
          clear H
          obtain ⟨Ao8, co8, eo8⟩ := Kd.R_slice HO_0.out
          subst eo8
          have p5 : 0 ≤ (x5_1 : Int) := of_decide_eq_true (by first | (with_reducible assumption) | assumption)
          have q5 : (x5_1 : Int) < ((x0_1.length : Int) : Int) := of_decide_eq_true (by first | (with_reducible assumption) | assumption)
          obtain ⟨go5, co5, eo5, gb5, gl5, cl5, HG5⟩ := Kd.R_form HO_0.out (by omega)
          (first | cases eo5 | (injection eo5 with ea_ en_ ec_; (first | subst ea_ | (injection ea_ with ea_; subst ea_)); subst ec_; clear en_))
          have GB5 := Aside0.mk gb5
          have GG5 := Aside0.mk HG5
          clear gb5 gl5 HG5
          have HMgo5 := Aside0.mk (show (P0_ go5 ∨ w.heap.size ≤ go5) from (HO_0.out.1 _ rfl))
          obtain ⟨ce5, hcl5, hM5, hcc5, hfr5⟩ := Kd.R_elem HO_0.out z104 (x5_1 : Int) p5 q5
          obtain rfl := k104_openM hM5
          have hx5_0 : wr.cell? ⟨go5, (x5_1 : Int).toNat * 3, none⟩ = some (.int .i64 ((rd_T104 x0_1 x5_1).f0)) := hcc5 0 _ rfl
          have hx5_1 : wr.cell? ⟨go5, (x5_1 : Int).toNat * 3 + 1, none⟩ = some (.int .i64 ((rd_T104 x0_1 x5_1).f1)) := hcc5 1 _ rfl
          have hx5_2 : wr.cell? ⟨go5, (x5_1 : Int).toNat * 3 + 2, none⟩ = some (.bool ((rd_T104 x0_1 x5_1).f2)) := hcc5 2 _ rfl
          have hf5_0 : wr.frozen? ⟨go5, (x5_1 : Int).toNat * 3, none⟩ = false := hfr5 0
          have hf5_1 : wr.frozen? ⟨go5, (x5_1 : Int).toNat * 3 + 1, none⟩ = false := hfr5 1
          have hf5_2 : wr.frozen? ⟨go5, (x5_1 : Int).toNat * 3 + 2, none⟩ = false := hfr5 2
          clear hcl5 hcc5 hfr5 hM5
          replace p5 := eq_true p5
          replace q5 := eq_true q5
          have HX9 := Aside0.mk (show Kd.R k104 104 wr w0.heap.size (fun k_ => (P0_ k_ ∨ w.heap.size ≤ k_)) (.slice (some ⟨go5, 0, none⟩) x0_1.length co8) x0_1 from (by (with_reducible repeat (first | apply Kd.R_alloc | apply Kd.R_drewN | apply Kd.R_drew)); exact HO_0.out))
          obtain ⟨ce9, hcl9, hM9, hcc9, hfr9⟩ := Kd.R_elem HX9.out z104 (x5_1 : Int) (of_decide_eq_true (by first | (with_reducible assumption) | assumption)) (by have h_ : (x5_1 : Int) < ((x0_1.length : Int) : Int) := of_decide_eq_true (by first | (with_reducible assumption) | assumption); first | exact h_ | (have e_ := (Kd.R_reads' HO_0.out).1; omega) | simpa using h_)
          obtain rfl := k104_openM hM9
          have HP9 := Kd.R_seg HX9.out (x5_1 : Int) (of_decide_eq_true (by first | (with_reducible assumption) | assumption)) (by have h_ : (x5_1 : Int) < ((x0_1.length : Int) : Int) := of_decide_eq_true (by first | (with_reducible assumption) | assumption); first | exact h_ | (have e_ := (Kd.R_reads' HO_0.out).1; omega) | simpa using h_) (seg := [.int .i64 x1_1]) (j := 0) hcl9 hcc9 (show 1 ≤ 3 from by decide) (x' := (⟨x1_1, (rd_T104 x0_1 x5_1).f1, (rd_T104 x0_1 x5_1).f2⟩ : S104)) (k104_mkM _ _ _ (⟨x1_1, (rd_T104 x0_1 x5_1).f1, (rd_T104 x0_1 x5_1).f2⟩ : S104) ) (fun _ hk => hk)
          have hx9_0 := hcc9 0 _ rfl
          (try simp only [show (k104).sz = 3 from rfl, Nat.mul_one, Nat.add_zero] at hx9_0)
          have hf9_0 := hfr9 0
          (try simp only [show (k104).sz = 3 from rfl, Nat.mul_one, Nat.add_zero] at hf9_0)
          clear hcl9 hcc9 hfr9 hM9
          go_wp2_with (first | ((with_reducible refine gate_store (t := 3) (p := 16) rfl ?_); refine store_event (t := 3) (p := 16) (v := ?vo_w10) (w1 := (wr.setCell ⟨go5, (x5_1 : Int).toNat * 3, none⟩ (.int .i64 x1_1))) ?hg ?ho ?hn ?hr ?_; (case ho => rfl); (case hg => rfl); (case hn => rfl); (case hr => first | (go_simp; done) | (go_simp; rfl)); intro w10 hw; have hg : wr.grownBy w10 (some go5) := (by rw [hw]; exact HP9.2); have hp_ : Kd.R k104 104 w10 w0.heap.size (fun k_ => (P0_ k_ ∨ w.heap.size ≤ k_)) (.slice (some ⟨go5, 0, none⟩) x0_1.length co8) y158 := (by rw [hw, Ny158.out]; exact HP9.1); clear HP9; have n0_ := Aside0.mk (hp_); have n1_ := Aside0.mk ((by rw [hw]; exact below_set (HB.out) GB5.out : Below w0.heap.size w0 w10)); have n2_ := Aside0.mk (Kept.of_grown (S := (fun k_ => P0_ k_)) hg (by repeat (first | (with_reducible first | exact HK.out | apply Kept.alloc | apply Kept.drewN | apply Kept.drew) | exact HK.out)) (fun k_ e_ => (HO_0.out.1 k_ e_))); clear HO_0; clear HB; clear HK; have HO_0 := n0_; have HB := n1_; have HK := n2_; clear n0_ n1_ n2_; clear hg hw hp_; have p6 : 0 ≤ (x5_1 : Int) := of_decide_eq_true (by first | (with_reducible assumption) | assumption); have q6 : (x5_1 : Int) < ((x0_1.length : Int) : Int) := of_decide_eq_true (by first | (with_reducible assumption) | assumption); obtain ⟨ce6, hcl6, hM6, hcc6, hfr6⟩ := Kd.R_elem HO_0.out z104 (x5_1 : Int) p6 q6; obtain rfl := k104_openM hM6; have hx6_0 : w10.cell? ⟨go5, (x5_1 : Int).toNat * 3, none⟩ = some (.int .i64 ((rd_T104 y158 x5_1).f0)) := hcc6 0 _ rfl; have hx6_1 : w10.cell? ⟨go5, (x5_1 : Int).toNat * 3 + 1, none⟩ = some (.int .i64 ((rd_T104 y158 x5_1).f1)) := hcc6 1 _ rfl; have hx6_2 : w10.cell? ⟨go5, (x5_1 : Int).toNat * 3 + 2, none⟩ = some (.bool ((rd_T104 y158 x5_1).f2)) := hcc6 2 _ rfl; have hf6_0 : w10.frozen? ⟨go5, (x5_1 : Int).toNat * 3, none⟩ = false := hfr6 0; have hf6_1 : w10.frozen? ⟨go5, (x5_1 : Int).toNat * 3 + 1, none⟩ = false := hfr6 1; have hf6_2 : w10.frozen? ⟨go5, (x5_1 : Int).toNat * 3 + 2, none⟩ = false := hfr6 2; clear hcl6 hcc6 hfr6 hM6; replace p6 := eq_true p6; replace q6 := eq_true q6; have HX11 := Aside0.mk (show Kd.R k104 104 w10 w0.heap.size (fun k_ => (P0_ k_ ∨ w.heap.size ≤ k_)) (.slice (some ⟨go5, 0, none⟩) x0_1.length co8) y158 from (by (with_reducible repeat (first | apply Kd.R_alloc | apply Kd.R_drewN | apply Kd.R_drew)); exact HO_0.out)); obtain ⟨ce11, hcl11, hM11, hcc11, hfr11⟩ := Kd.R_elem HX11.out z104 (x5_1 : Int) (of_decide_eq_true (by first | (with_reducible assumption) | assumption)) (by have h_ : (x5_1 : Int) < ((x0_1.length : Int) : Int) := of_decide_eq_true (by first | (with_reducible assumption) | assumption); first | exact h_ | (have e_ := (Kd.R_reads' HO_0.out).1; omega) | simpa using h_); obtain rfl := k104_openM hM11; have HP11 := Kd.R_seg HX11.out (x5_1 : Int) (of_decide_eq_true (by first | (with_reducible assumption) | assumption)) (by have h_ : (x5_1 : Int) < ((x0_1.length : Int) : Int) := of_decide_eq_true (by first | (with_reducible assumption) | assumption); first | exact h_ | (have e_ := (Kd.R_reads' HO_0.out).1; omega) | simpa using h_) (seg := [.int .i64 (wrap64 (x1_1 + 1))]) (j := 1) hcl11 hcc11 (show 2 ≤ 3 from by decide) (x' := (⟨(rd_T104 y158 x5_1).f0, wrap64 (x1_1 + 1), (rd_T104 y158 x5_1).f2⟩ : S104)) (k104_mkM _ _ _ (⟨(rd_T104 y158 x5_1).f0, wrap64 (x1_1 + 1), (rd_T104 y158 x5_1).f2⟩ : S104) ) (fun _ hk => hk); have hx11_1 := hcc11 1 _ rfl; (try simp only [show (k104).sz = 3 from rfl, Nat.mul_one, Nat.add_zero] at hx11_1); have hf11_1 := hfr11 1; (try simp only [show (k104).sz = 3 from rfl, Nat.mul_one, Nat.add_zero] at hf11_1); clear hcl11 hcc11 hfr11 hM11) | ((with_reducible refine gate_store (t := 3) (p := 23) rfl ?_); refine store_event (t := 3) (p := 23) (v := ?vo_w12) (w1 := (w10.setCell ⟨go5, (x5_1 : Int).toNat * 3 + 1, none⟩ (.int .i64 (wrap64 (x1_1 + 1))))) ?hg ?ho ?hn ?hr ?_; (case ho => rfl); (case hg => rfl); (case hn => rfl); (case hr => first | (go_simp; done) | (go_simp; rfl)); intro w12 hw; have hg : w10.grownBy w12 (some go5) := (by rw [hw]; exact HP11.2); have hp_ : Kd.R k104 104 w12 w0.heap.size (fun k_ => (P0_ k_ ∨ w.heap.size ≤ k_)) (.slice (some ⟨go5, 0, none⟩) x0_1.length co8) y159 := (by rw [hw, Ny159.out]; exact HP11.1); clear HP11; have n0_ := Aside0.mk (hp_); have n1_ := Aside0.mk ((by rw [hw]; exact below_set (HB.out) GB5.out : Below w0.heap.size w0 w12)); have n2_ := Aside0.mk (Kept.of_grown (S := (fun k_ => P0_ k_)) hg (by repeat (first | (with_reducible first | exact HK.out | apply Kept.alloc | apply Kept.drewN | apply Kept.drew) | exact HK.out)) (fun k_ e_ => (HO_0.out.1 k_ e_))); clear HO_0; clear HB; clear HK; have HO_0 := n0_; have HB := n1_; have HK := n2_; clear n0_ n1_ n2_; clear hg hw hp_; have p7 : 0 ≤ (x5_1 : Int) := of_decide_eq_true (by first | (with_reducible assumption) | assumption); have q7 : (x5_1 : Int) < ((x0_1.length : Int) : Int) := of_decide_eq_true (by first | (with_reducible assumption) | assumption); obtain ⟨ce7, hcl7, hM7, hcc7, hfr7⟩ := Kd.R_elem HO_0.out z104 (x5_1 : Int) p7 q7; obtain rfl := k104_openM hM7; have hx7_0 : w12.cell? ⟨go5, (x5_1 : Int).toNat * 3, none⟩ = some (.int .i64 ((rd_T104 y159 x5_1).f0)) := hcc7 0 _ rfl; have hx7_1 : w12.cell? ⟨go5, (x5_1 : Int).toNat * 3 + 1, none⟩ = some (.int .i64 ((rd_T104 y159 x5_1).f1)) := hcc7 1 _ rfl; have hx7_2 : w12.cell? ⟨go5, (x5_1 : Int).toNat * 3 + 2, none⟩ = some (.bool ((rd_T104 y159 x5_1).f2)) := hcc7 2 _ rfl; have hf7_0 : w12.frozen? ⟨go5, (x5_1 : Int).toNat * 3, none⟩ = false := hfr7 0; have hf7_1 : w12.frozen? ⟨go5, (x5_1 : Int).toNat * 3 + 1, none⟩ = false := hfr7 1; have hf7_2 : w12.frozen? ⟨go5, (x5_1 : Int).toNat * 3 + 2, none⟩ = false := hfr7 2; clear hcl7 hcc7 hfr7 hM7; replace p7 := eq_true p7; replace q7 := eq_true q7; have HX13 := Aside0.mk (show Kd.R k104 104 w12 w0.heap.size (fun k_ => (P0_ k_ ∨ w.heap.size ≤ k_)) (.slice (some ⟨go5, 0, none⟩) x0_1.length co8) y159 from (by (with_reducible repeat (first | apply Kd.R_alloc | apply Kd.R_drewN | apply Kd.R_drew)); exact HO_0.out)); obtain ⟨ce13, hcl13, hM13, hcc13, hfr13⟩ := Kd.R_elem HX13.out z104 (x5_1 : Int) (of_decide_eq_true (by first | (with_reducible assumption) | assumption)) (by have h_ : (x5_1 : Int) < ((x0_1.length : Int) : Int) := of_decide_eq_true (by first | (with_reducible assumption) | assumption); first | exact h_ | (have e_ := (Kd.R_reads' HO_0.out).1; omega) | simpa using h_); obtain rfl := k104_openM hM13; have HP13 := Kd.R_seg HX13.out (x5_1 : Int) (of_decide_eq_true (by first | (with_reducible assumption) | assumption)) (by have h_ : (x5_1 : Int) < ((x0_1.length : Int) : Int) := of_decide_eq_true (by first | (with_reducible assumption) | assumption); first | exact h_ | (have e_ := (Kd.R_reads' HO_0.out).1; omega) | simpa using h_) (seg := [.bool ((Int.tmod (wrap64 ((wrap64 (x1_1 + 1)) + 1)) 3) == 0)]) (j := 2) hcl13 hcc13 (show 3 ≤ 3 from by decide) (x' := (⟨(rd_T104 y159 x5_1).f0, (rd_T104 y159 x5_1).f1, ((Int.tmod (wrap64 ((wrap64 (x1_1 + 1)) + 1)) 3) == 0)⟩ : S104)) (k104_mkM _ _ _ (⟨(rd_T104 y159 x5_1).f0, (rd_T104 y159 x5_1).f1, ((Int.tmod (wrap64 ((wrap64 (x1_1 + 1)) + 1)) 3) == 0)⟩ : S104) ) (fun _ hk => hk); have hx13_2 := hcc13 2 _ rfl; (try simp only [show (k104).sz = 3 from rfl, Nat.mul_one, Nat.add_zero] at hx13_2); have hf13_2 := hfr13 2; (try simp only [show (k104).sz = 3 from rfl, Nat.mul_one, Nat.add_zero] at hf13_2); clear hcl13 hcc13 hfr13 hM13) | ((with_reducible refine gate_store (t := 4) (p := 32) rfl ?_); refine store_event (t := 4) (p := 32) (v := ?vo_w14) (w1 := (w12.setCell ⟨go5, (x5_1 : Int).toNat * 3 + 2, none⟩ (.bool ((Int.tmod (wrap64 ((wrap64 (x1_1 + 1)) + 1)) 3) == 0)))) ?hg ?ho ?hn ?hr ?_; (case ho => rfl); (case hg => rfl); (case hn => rfl); (case hr => first | (go_simp; done) | (go_simp; rfl)); intro w14 hw; have hg : w12.grownBy w14 (some go5) := (by rw [hw]; exact HP13.2); have hp_ : Kd.R k104 104 w14 w0.heap.size (fun k_ => (P0_ k_ ∨ w.heap.size ≤ k_)) (.slice (some ⟨go5, 0, none⟩) x0_1.length co8) y160 := (by rw [hw, Ny160.out]; exact HP13.1); clear HP13; have n0_ := Aside0.mk (hp_); have n1_ := Aside0.mk ((by rw [hw]; exact below_set (HB.out) GB5.out : Below w0.heap.size w0 w14)); have n2_ := Aside0.mk (Kept.of_grown (S := (fun k_ => P0_ k_)) hg (by repeat (first | (with_reducible first | exact HK.out | apply Kept.alloc | apply Kept.drewN | apply Kept.drew) | exact HK.out)) (fun k_ e_ => (HO_0.out.1 k_ e_))); clear HO_0; clear HB; clear HK; have HO_0 := n0_; have HB := n1_; have HK := n2_; clear n0_ n1_ n2_; clear hg hw hp_))
          go_roundg k1
          case measure => have := HK1.out; omega
          case rel => exact ⟨(y160), (wrap64 ((wrap64 ((wrap64 (x1_1 + 1)) + 1)) + 1)), (wrap64 (x5_1 + 1)), (by first | rfl | (simp; done) | (simp [*]; done)), (by first | rfl | (simp; done) | (simp [*]; done)), H', ⟨by have := HK1.out; omega⟩, ⟨by (with_reducible repeat (first | apply Kd.R_alloc | apply Kd.R_drewN | apply Kd.R_drew)); exact HO_0.out⟩, ⟨by repeat (first | (with_reducible first | exact HK.out | apply Kept.alloc | apply Kept.drewN | apply Kept.drew) | exact HK.out)⟩, ⟨by repeat (first | (with_reducible first | exact HB.out | apply below_alloc | apply pw_below_drewN | apply below_drew1) | exact HB.out)⟩⟩
        · rw [if_neg c4] at H
          exact absurd H (by simp)
      · rw [if_neg c3] at H
        have c3b0 : decide (x5_1 < (x0_1.length : Int)) = false := decide_eq_false c3
        clear c3
        simp only [Option.some.injEq, Prod.mk.injEq] at H
        obtain ⟨rfl, rfl⟩ := H
        obtain ⟨Ao15, co15, eo15⟩ := Kd.R_slice HO_0.out
        subst eo15
        go_wp2
        go_ret
        exact ⟨by first | rfl | (simp [errW_none, errW_some] <;> rfl) | (simp [*, errW_none, errW_some] <;> rfl), by (with_reducible repeat (first | apply Kd.R_alloc | apply Kd.R_drewN | apply Kd.R_drew)); exact HO_0.out, by repeat (first | (with_reducible first | exact HB.out | apply below_alloc | apply pw_below_drewN | apply below_drew1) | exact HB.out), by repeat (first | (with_reducible first | exact HK.out | apply Kept.alloc | apply Kept.drewN | apply Kept.drew) | exact HK.out)⟩

/-! ### laws_heldHouseDropS: function 51 -/
def laws_heldHouseDropS.l0 : Nat → List (S104) → Int → Int → Option (Int)
  | 0, _, _, _ => none
  | k + 1, x0, x1, x5 => if x5 < (x0.length : Int) then (if 0 ≤ x5 then (if ((rd_T104 x0 x5).f0) = x1 then (if ((rd_T104 x0 x5).f1) = (wrap64 (x1 + 1)) then (if (((rd_T104 x0 x5).f2) != ((Int.tmod (wrap64 ((wrap64 (x1 + 1)) + 1)) 3) == 0)) = true then (some (-1)) else (laws_heldHouseDropS.l0 k x0 (wrap64 ((wrap64 ((wrap64 (x1 + 1)) + 1)) + 1)) (wrap64 (x5 + 1)))) else (some (-1))) else (some (-1))) else (none)) else (some x1)
def laws_heldHouseDropS.f (k : Nat) (l0 : List (S104)) (a1 : Int) : Option (Int) := laws_heldHouseDropS.l0 k l0 a1 0
theorem laws_heldHouseDropS.mono_l : ∀ k, (∀ y0 y1 y2, LeO (laws_heldHouseDropS.l0 k y0 y1 y2) (laws_heldHouseDropS.l0 (k + 1) y0 y1 y2))
  | 0 => fun _ _ _ r h => by simp [laws_heldHouseDropS.l0] at h
  | k + 1 => by
    have ih0 := laws_heldHouseDropS.mono_l k
    · intro y0 y1 y2
      unfold laws_heldHouseDropS.l0
      repeat' first
      | (with_reducible exact ih0 _ _ _)
      | (with_reducible exact LeO.refl _)
      | (with_reducible exact LeO.none _)
      | (with_reducible refine LeO.ite ?_ ?_)
      | (with_reducible refine LeO.bind ?_ (fun _ => ?_))
      | exact ih0 _ _ _
      | exact LeO.none _
      | refine LeO.ite ?_ ?_
      | refine LeO.bind ?_ (fun _ => ?_)
theorem laws_heldHouseDropS.mono : ∀ a0 a1 k, LeO (laws_heldHouseDropS.f k a0 a1) (laws_heldHouseDropS.f (k + 1) a0 a1) := by
  intro a0 a1 k
  have ih0 := laws_heldHouseDropS.mono_l k
  unfold laws_heldHouseDropS.f
  repeat' first
      | (with_reducible exact ih0 _ _ _)
      | (with_reducible exact LeO.refl _)
      | (with_reducible exact LeO.none _)
      | (with_reducible refine LeO.ite ?_ ?_)
      | (with_reducible refine LeO.bind ?_ (fun _ => ?_))
      | exact ih0 _ _ _
      | exact LeO.none _
      | refine LeO.ite ?_ ?_
      | refine LeO.bind ?_ (fun _ => ?_)
set_option maxHeartbeats 8000000 in
set_option maxRecDepth 100000 in
theorem laws_heldHouseDropS.calls (k : Nat) (A0 : Option Addr) (c0 : Nat) (l0 : List (S104)) (a1 : Int) (r : Int) (w : World) (hr0 : Kd.C k104 w A0 l0.length l0) (hc0 : l0.length ≤ c0) (h : laws_heldHouseDropS.f k l0 a1 = some r) :
    Calls Try.prog 51 #[.slice A0 l0.length c0, .int .i64 a1] w fun e w' => e = .returned (.int .i64 r) ∧ Drawn0 w w' := by
  have HR0 := Aside0.mk hr0
  have HC0 := Aside0.mk hc0
  clear hr0 hc0
  have H : (laws_heldHouseDropS.l0 k l0 a1 0) = some r := h
  clear h
  have H' := Aside0.mk H
  clear H
  go_enter Try.func51, Try.ntmps51
  go_wp2
  go_loopg [1, 5] k (fun kq v1 v5 w' => ∃ (x1_1 : Int) (x5_1 : Int), v1 = .int .i64 x1_1 ∧ v5 = .int .i64 x5_1 ∧ Aside0 (laws_heldHouseDropS.l0 kq l0 x1_1 x5_1 = some r) ∧ Aside0 (kq ≤ k) ∧ Drawn0 w w')
  case atStart => exact ⟨(a1), (0), (by first | rfl | (simp; done) | (simp [*]; done)), (by first | rfl | (simp; done) | (simp [*]; done)), H', ⟨Nat.le_refl _⟩, by repeat (first | exact Drawn0.refl _ | apply Drawn0.step)⟩
  case round =>
    clear H'
    try clear p2
    obtain ⟨x1_1, x5_1, rfl, rfl, HA, HK1, ⟨m1, rfl⟩⟩ := hrel
    cases gk with
    | zero => exact absurd HA.out (by simp [laws_heldHouseDropS.l0])
    | succ k1 =>
      have H := HA.out
      clear HA
      simp only [laws_heldHouseDropS.l0] at H
      by_cases c3 : x5_1 < (l0.length : Int)
      · rw [if_pos c3] at H
        have c3b0 : decide (x5_1 < (l0.length : Int)) = true := decide_eq_true c3
        clear c3
        by_cases c4 : 0 ≤ x5_1
        · rw [if_pos c4] at H
          have c4b0 : decide (0 ≤ x5_1) = true := decide_eq_true c4
          clear c4
          by_cases c5 : ((rd_T104 l0 x5_1).f0) = x1_1
          · rw [if_pos c5] at H
            have c5b0 : (((rd_T104 l0 x5_1).f0) == x1_1) = true := beq_iff_eq.mpr c5
            have c5b1 : (((rd_T104 l0 x5_1).f0) != x1_1) = false := bne_eq_false_iff_eq.mpr c5
            clear c5
            by_cases c6 : ((rd_T104 l0 x5_1).f1) = (wrap64 (x1_1 + 1))
            · rw [if_pos c6] at H
              have c6b0 : (((rd_T104 l0 x5_1).f1) == (wrap64 (x1_1 + 1))) = true := beq_iff_eq.mpr c6
              have c6b1 : (((rd_T104 l0 x5_1).f1) != (wrap64 (x1_1 + 1))) = false := bne_eq_false_iff_eq.mpr c6
              clear c6
              by_cases c7 : (((rd_T104 l0 x5_1).f2) != ((Int.tmod (wrap64 ((wrap64 (x1_1 + 1)) + 1)) 3) == 0)) = true
              · rw [if_pos c7] at H
                have c7b0 : (((rd_T104 l0 x5_1).f2) != ((Int.tmod (wrap64 ((wrap64 (x1_1 + 1)) + 1)) 3) == 0)) = true := c7
                (try (have c7b1 : decide (((rd_T104 l0 x5_1).f2) = ((Int.tmod (wrap64 ((wrap64 (x1_1 + 1)) + 1)) 3) == 0)) = false := by simpa using c7))
                (try (have c7b2 : (((rd_T104 l0 x5_1).f2) == ((Int.tmod (wrap64 ((wrap64 (x1_1 + 1)) + 1)) 3) == 0)) = false := by simpa using c7))
                (try (have c7b3 : ¬ (((rd_T104 l0 x5_1).f2) = ((Int.tmod (wrap64 ((wrap64 (x1_1 + 1)) + 1)) 3) == 0)) := by simpa using c7))
                clear c7
                obtain rfl := Option.some.inj H
                have p161 : 0 ≤ (x5_1 : Int) := of_decide_eq_true (by first | (with_reducible assumption) | assumption)
                have q161 : x5_1 < (l0.length : Int) := of_decide_eq_true (by first | (with_reducible assumption) | assumption)
                obtain ⟨ad161, e161, hx161_0, hx161_1, hx161_2⟩ := at_T104 HR0.out x5_1 p161 q161
                cases e161
                replace p161 := eq_true p161
                replace q161 := eq_true q161
                have p162 : 0 ≤ (x5_1 : Int) := of_decide_eq_true (by first | (with_reducible assumption) | assumption)
                have q162 : x5_1 < (l0.length : Int) := of_decide_eq_true (by first | (with_reducible assumption) | assumption)
                obtain ⟨ad162, e162, hx162_0, hx162_1, hx162_2⟩ := at_T104 HR0.out x5_1 p162 q162
                obtain rfl : ad161 = ad162 := (by injection e162)
                replace p162 := eq_true p162
                replace q162 := eq_true q162
                have p163 : 0 ≤ (x5_1 : Int) := of_decide_eq_true (by first | (with_reducible assumption) | assumption)
                have q163 : x5_1 < (l0.length : Int) := of_decide_eq_true (by first | (with_reducible assumption) | assumption)
                obtain ⟨ad163, e163, hx163_0, hx163_1, hx163_2⟩ := at_T104 HR0.out x5_1 p163 q163
                obtain rfl : ad161 = ad163 := (by injection e163)
                replace p163 := eq_true p163
                replace q163 := eq_true q163
                go_wp2
                go_ret
                exact ⟨by first | rfl | (simp; done) | (simp [*]; done), by repeat (first | exact Drawn0.refl _ | apply Drawn0.step)⟩
              · rw [if_neg c7] at H
                have c7b0 : (((rd_T104 l0 x5_1).f2) != ((Int.tmod (wrap64 ((wrap64 (x1_1 + 1)) + 1)) 3) == 0)) = false := by simpa using c7
                (try (have c7b1 : decide (((rd_T104 l0 x5_1).f2) = ((Int.tmod (wrap64 ((wrap64 (x1_1 + 1)) + 1)) 3) == 0)) = true := by simpa using c7))
                (try (have c7b2 : (((rd_T104 l0 x5_1).f2) == ((Int.tmod (wrap64 ((wrap64 (x1_1 + 1)) + 1)) 3) == 0)) = true := by simpa using c7))
                clear c7
                have H' := Aside0.mk H
                clear H
                have p161 : 0 ≤ (x5_1 : Int) := of_decide_eq_true (by first | (with_reducible assumption) | assumption)
                have q161 : x5_1 < (l0.length : Int) := of_decide_eq_true (by first | (with_reducible assumption) | assumption)
                obtain ⟨ad161, e161, hx161_0, hx161_1, hx161_2⟩ := at_T104 HR0.out x5_1 p161 q161
                cases e161
                replace p161 := eq_true p161
                replace q161 := eq_true q161
                have p162 : 0 ≤ (x5_1 : Int) := of_decide_eq_true (by first | (with_reducible assumption) | assumption)
                have q162 : x5_1 < (l0.length : Int) := of_decide_eq_true (by first | (with_reducible assumption) | assumption)
                obtain ⟨ad162, e162, hx162_0, hx162_1, hx162_2⟩ := at_T104 HR0.out x5_1 p162 q162
                obtain rfl : ad161 = ad162 := (by injection e162)
                replace p162 := eq_true p162
                replace q162 := eq_true q162
                have p163 : 0 ≤ (x5_1 : Int) := of_decide_eq_true (by first | (with_reducible assumption) | assumption)
                have q163 : x5_1 < (l0.length : Int) := of_decide_eq_true (by first | (with_reducible assumption) | assumption)
                obtain ⟨ad163, e163, hx163_0, hx163_1, hx163_2⟩ := at_T104 HR0.out x5_1 p163 q163
                obtain rfl : ad161 = ad163 := (by injection e163)
                replace p163 := eq_true p163
                replace q163 := eq_true q163
                go_wp2
                go_roundg k1
                case measure => have := HK1.out; omega
                case rel => exact ⟨(wrap64 ((wrap64 ((wrap64 (x1_1 + 1)) + 1)) + 1)), (wrap64 (x5_1 + 1)), (by first | rfl | (simp; done) | (simp [*]; done)), (by first | rfl | (simp; done) | (simp [*]; done)), H', ⟨by have := HK1.out; omega⟩, by repeat (first | exact Drawn0.refl _ | apply Drawn0.step)⟩
            · rw [if_neg c6] at H
              have c6b0 : (((rd_T104 l0 x5_1).f1) == (wrap64 (x1_1 + 1))) = false := beq_eq_false_iff_ne.mpr c6
              have c6b1 : (((rd_T104 l0 x5_1).f1) != (wrap64 (x1_1 + 1))) = true := bne_iff_ne.mpr c6
              obtain rfl := Option.some.inj H
              have p161 : 0 ≤ (x5_1 : Int) := of_decide_eq_true (by first | (with_reducible assumption) | assumption)
              have q161 : x5_1 < (l0.length : Int) := of_decide_eq_true (by first | (with_reducible assumption) | assumption)
              obtain ⟨ad161, e161, hx161_0, hx161_1, hx161_2⟩ := at_T104 HR0.out x5_1 p161 q161
              cases e161
              replace p161 := eq_true p161
              replace q161 := eq_true q161
              have p162 : 0 ≤ (x5_1 : Int) := of_decide_eq_true (by first | (with_reducible assumption) | assumption)
              have q162 : x5_1 < (l0.length : Int) := of_decide_eq_true (by first | (with_reducible assumption) | assumption)
              obtain ⟨ad162, e162, hx162_0, hx162_1, hx162_2⟩ := at_T104 HR0.out x5_1 p162 q162
              obtain rfl : ad161 = ad162 := (by injection e162)
              replace p162 := eq_true p162
              replace q162 := eq_true q162
              go_wp2
              go_ret
              exact ⟨by first | rfl | (simp; done) | (simp [*]; done), by repeat (first | exact Drawn0.refl _ | apply Drawn0.step)⟩
          · rw [if_neg c5] at H
            have c5b0 : (((rd_T104 l0 x5_1).f0) == x1_1) = false := beq_eq_false_iff_ne.mpr c5
            have c5b1 : (((rd_T104 l0 x5_1).f0) != x1_1) = true := bne_iff_ne.mpr c5
            obtain rfl := Option.some.inj H
            have p161 : 0 ≤ (x5_1 : Int) := of_decide_eq_true (by first | (with_reducible assumption) | assumption)
            have q161 : x5_1 < (l0.length : Int) := of_decide_eq_true (by first | (with_reducible assumption) | assumption)
            obtain ⟨ad161, e161, hx161_0, hx161_1, hx161_2⟩ := at_T104 HR0.out x5_1 p161 q161
            cases e161
            replace p161 := eq_true p161
            replace q161 := eq_true q161
            go_wp2
            go_ret
            exact ⟨by first | rfl | (simp; done) | (simp [*]; done), by repeat (first | exact Drawn0.refl _ | apply Drawn0.step)⟩
        · rw [if_neg c4] at H
          exact absurd H (by simp)
      · rw [if_neg c3] at H
        have c3b0 : decide (x5_1 < (l0.length : Int)) = false := decide_eq_false c3
        clear c3
        obtain rfl := Option.some.inj H
        go_wp2
        go_ret
        exact ⟨by first | rfl | (simp; done) | (simp [*]; done), by repeat (first | exact Drawn0.refl _ | apply Drawn0.step)⟩

-- FOR laws.FnExactPlayHouses
theorem toTrueI (F F' L : List Int) (W : World) (A : Option Addr) (n c : Nat) (h0 : L.length = 0 → F' = []) (h2 : L.length ≠ 0 → F' = F) (hL : F.take L.length = L) (q1 : F'.length ≤ c) (q2 : Kd.C (Kd.int .i64) W A F'.length F') (hn : n = L.length ∨ F' = [] ∧ n = 0) :
    n = L.length ∧ Kd.C (Kd.int .i64) W A L.length L ∧ L.length ≤ c := by
  have hLF : L.length ≤ F.length := by have h_ := congrArg List.length hL; rw [List.length_take] at h_; omega
  by_cases hz : L.length = 0
  · have h_ := h0 hz
    subst h_
    obtain rfl := List.eq_nil_of_length_eq_zero hz
    refine ⟨?_, q2, Nat.zero_le _⟩
    rcases hn with h_ | ⟨_, h_⟩
    · exact h_
    · exact h_
  · have h_ := h2 hz
    subst h_
    refine ⟨?_, by have h_ := Hw.C_take q2 L.length hLF; rw [hL] at h_; exact h_, Nat.le_trans hLF q1⟩
    rcases hn with h_ | ⟨h_, h3_⟩
    · exact h_
    · rw [h3_, ← hL, h_]; simp
set_option maxHeartbeats 8000000 in
set_option maxRecDepth 100000 in
theorem hand_FnExactPlayHouses (k : Nat) (a0 : Int) (A1 : Option Addr) (c1 : Nat) (l1 : List Int) (A2 : Option Addr) (c2 : Nat) (l2 : List Int) (w : World) (hr1 : Kd.C (Kd.int .i64) w A1 l1.length l1) (hc1 : l1.length ≤ c1) (hr2 : Kd.C (Kd.int .i64) w A2 l2.length l2) (hc2 : l2.length ≤ c2) (F1 F1' Lx1 : List Int) (t1 m1 : Int) (F2 F2' Lx2 : List Int) (t2 m2 : Int) (G : List S104) (r2 : Bool) (Gm : List S104) (m : Int) (hF1 : full_toIntS.f k l1 false = some F1) (hFt1 : full_toIntS.f k l1 true = some F1') (hF21 : l1.length ≠ 0 → F1' = F1) (hF01 : l1.length = 0 → F1' = []) (hL1 : F1.take l1.length = l1) (hqt1 : laws_roomBehind.f (l1.length : Int) = some t1) (hn1 : wrap64 ((l1.length : Int) + t1) = (F1.length : Int)) (he1 : laws_eqIntS.f k F1 F1 = some true) (hmx1 : laws_markIntS.f k l1 101 = some (m1, Lx1)) (hF2 : full_toIntS.f k l2 false = some F2) (hFt2 : full_toIntS.f k l2 true = some F2') (hF22 : l2.length ≠ 0 → F2' = F2) (hF02 : l2.length = 0 → F2' = []) (hL2 : F2.take l2.length = l2) (hqt2 : laws_roomBehind.f (l2.length : Int) = some t2) (hn2 : wrap64 ((l2.length : Int) + t2) = (F2.length : Int)) (he2 : laws_eqIntS.f k F2 F2 = some true) (hmx2 : laws_markIntS.f k l2 m1 = some (m2, Lx2)) (h1 : spec_PlayHouses.f a0 l1 l2 = some (G, r2)) (h2 : impl_PlayHouses.f a0 l1 l2 = some (G, r2)) (hq : laws_eqHouseDropS.f k G G = some true) (hmg : laws_markHouseDropS.f k G 101 = some (m, Gm)) (hhg : laws_heldHouseDropS.f k Gm 101 = some m) (hGm : Gm.length = G.length) (hm0 : 0 ≤ m) (hkx : 0 ≤ m2) (hbig : (l1.length : Int) + (l2.length : Int) ≤ 1000000) :
    Calls Try.prog 12 #[.int .i64 a0, .slice A1 l1.length c1, .slice A2 l2.length c2] w fun e w' => e = .returned (.bool true) ∧ Below w.heap.size w w' := by
  have HR1 := Aside0.mk hr1
  have HC1 := Aside0.mk hc1
  have HR2 := Aside0.mk hr2
  have HC2 := Aside0.mk hc2
  have HF1 := Aside0.mk hF1
  have HF1t := Aside0.mk hFt1
  have HF21 := Aside0.mk hF21
  have HF01 := Aside0.mk hF01
  have HL1 := Aside0.mk hL1
  have HQT1 := Aside0.mk hqt1
  have HN1 := Aside0.mk hn1
  have HE1 := Aside0.mk he1
  have HMX1 := Aside0.mk hmx1
  have HF2 := Aside0.mk hF2
  have HF2t := Aside0.mk hFt2
  have HF22 := Aside0.mk hF22
  have HF02 := Aside0.mk hF02
  have HL2 := Aside0.mk hL2
  have HQT2 := Aside0.mk hqt2
  have HN2 := Aside0.mk hn2
  have HE2 := Aside0.mk he2
  have HMX2 := Aside0.mk hmx2
  have H1 := Aside0.mk h1
  have H2 := Aside0.mk h2
  have HQ := Aside0.mk hq
  have HMG := Aside0.mk hmg
  have HHG := Aside0.mk hhg
  have HGm := Aside0.mk hGm
  have HB := Aside0.mk (Below.refl w.heap.size w)
  have dm : decide (m < 0) = false := decide_eq_false (by omega)
  have dk : decide (m2 < 0) = false := decide_eq_false (by omega)
  have hr2_ : (r2 != r2) = false := by simp
  have hz1_ : (0 : Int) ≤ (l1.length : Int) := Int.natCast_nonneg _
  have hz2_ : (0 : Int) ≤ (l2.length : Int) := Int.natCast_nonneg _
  have wsum_ : IntKind.i64.wrap ((l1.length : Int) + (l2.length : Int)) = (l1.length : Int) + (l2.length : Int) := Hw.wrap_w (by omega) (by omega)
  have dbig : decide ((l1.length : Int) + (l2.length : Int) > 1000000) = false := decide_eq_false (by omega)
  have dbig2 : decide (1000000 < (l1.length : Int) + (l2.length : Int)) = false := decide_eq_false (by omega)
  have dbig3 : decide (l1.length + l2.length > 1000000) = false := decide_eq_false (by omega)
  clear hz1_ hz2_ hbig
  clear hm0 hkx hr1 hc1 hr2 hc2 hF1 hFt1 hF21 hF01 hL1 hqt1 hn1 he1 hmx1 hF2 hFt2 hF22 hF02 hL2 hqt2 hn2 he2 hmx2 h1 h2 hq hmg hhg hGm
  go_enter Try.func12, Try.ntmps12
  go_wp2_with fail
  refine (full_toIntS.calls k _ _ l1 false F1 w (Kd.C_below HR1.out HB.out) HC1.out HF1.out).mono ?_
  rintro e w1 hp_
  obtain ⟨A1_, n1_, c1_, rfl, hR_, hn_, hb_⟩ := hp_
  have hq_ := Kd.R_reads' hR_
  obtain rfl : n1_ = l1.length := (by rcases hn_ with h_ | ⟨h_, h2_⟩; exact h_; exact h2_.trans (by have h3_ := congrArg List.length HL1.out; rw [h_, List.length_take, List.length_nil, Nat.min_zero] at h3_; exact h3_))
  have hl_ : l1.length ≤ F1.length := by have h_ := congrArg List.length HL1.out; rw [List.length_take] at h_; omega
  have HU1 : Aside0 (l1.length ≤ c1_) := ⟨Nat.le_trans hl_ hq_.2.1⟩
  have n0_ : Aside0 (Below w.heap.size w w1) := ⟨below_step HB.out hb_⟩
  have m0_ : Aside0 (Kd.C (Kd.int .i64) w1 A1_ l1.length l1) := ⟨by have h_ := Hw.C_take hq_.2.2 l1.length hl_; rw [HL1.out] at h_; exact h_⟩
  (try clear HB)
  have HB := n0_
  have HV1 := m0_
  clear n0_ m0_
  clear hb_ hR_ hn_ hq_ hl_
  go_wp2_with fail
  refine (full_toIntS.calls k _ _ l2 false F2 w1 (Kd.C_below HR2.out HB.out) HC2.out HF2.out).mono ?_
  rintro e w2 hp_
  obtain ⟨A2_, n2_, c2_, rfl, hR_, hn_, hb_⟩ := hp_
  have hq_ := Kd.R_reads' hR_
  obtain rfl : n2_ = l2.length := (by rcases hn_ with h_ | ⟨h_, h2_⟩; exact h_; exact h2_.trans (by have h3_ := congrArg List.length HL2.out; rw [h_, List.length_take, List.length_nil, Nat.min_zero] at h3_; exact h3_))
  have hl_ : l2.length ≤ F2.length := by have h_ := congrArg List.length HL2.out; rw [List.length_take] at h_; omega
  have HU2 : Aside0 (l2.length ≤ c2_) := ⟨Nat.le_trans hl_ hq_.2.1⟩
  have n0_ : Aside0 (Below w.heap.size w w2) := ⟨below_step HB.out hb_⟩
  have n1_ : Aside0 (Kd.C (Kd.int .i64) w2 A1_ l1.length l1) := ⟨Kd.C_below HV1.out hb_⟩
  have m0_ : Aside0 (Kd.C (Kd.int .i64) w2 A2_ l2.length l2) := ⟨by have h_ := Hw.C_take hq_.2.2 l2.length hl_; rw [HL2.out] at h_; exact h_⟩
  (try clear HB)
  (try clear HV1)
  have HB := n0_
  have HV1 := n1_
  have HV2 := m0_
  clear n0_ n1_ m0_
  clear hb_ hR_ hn_ hq_ hl_
  go_wp2_with fail
  refine (spec_PlayHouses.calls a0 _ _ l1 _ _ l2 G r2 w2 HV1.out HU1.out HV2.out HU2.out H1.out).mono ?_
  rintro e w3 ⟨v_, rfl, ho_, hb_⟩
  obtain ⟨A3_, c3_, rfl⟩ := Kd.R_slice ho_
  have LE0 : Aside0 (w2.heap.size ≤ w3.heap.size) := ⟨hb_.size⟩
  have n0_ : Aside0 (Below w.heap.size w w3) := ⟨below_step HB.out hb_⟩
  have n1_ : Aside0 (Kd.C (Kd.int .i64) w3 A1_ l1.length l1) := ⟨Kd.C_below HV1.out hb_⟩
  have n2_ : Aside0 (Kd.C (Kd.int .i64) w3 A2_ l2.length l2) := ⟨Kd.C_below HV2.out hb_⟩
  have m0_ : Aside0 (Kd.R k104 104 w3 w.heap.size (fun k_ => w2.heap.size ≤ k_ ∧ k_ < w3.heap.size) (.slice A3_ G.length c3_) G) := ⟨Kd.R_mono (Kd.R_lower (Kd.R_bound ho_) (below_size HB.out)) (fun k_ hk => ⟨hk.2.1, hk.2.2.1⟩)⟩
  (try clear HB)
  (try clear HV1)
  (try clear HV2)
  have HB := n0_
  have HV1 := n1_
  have HV2 := n2_
  have HW := m0_
  clear n0_ n1_ n2_ m0_
  clear hb_ ho_
  go_wp2_with fail
  refine (full_toIntS.calls k _ _ l1 false F1 w3 (Kd.C_below HR1.out HB.out) HC1.out HF1.out).mono ?_
  rintro e w4 hp_
  obtain ⟨A4_, n4_, c4_, rfl, hR_, hn_, hb_⟩ := hp_
  have hq_ := Kd.R_reads' hR_
  obtain rfl : n4_ = l1.length := (by rcases hn_ with h_ | ⟨h_, h2_⟩; exact h_; exact h2_.trans (by have h3_ := congrArg List.length HL1.out; rw [h_, List.length_take, List.length_nil, Nat.min_zero] at h3_; exact h3_))
  have hl_ : l1.length ≤ F1.length := by have h_ := congrArg List.length HL1.out; rw [List.length_take] at h_; omega
  have hx_ := Hw.R_take hR_ l1.length hl_
  rw [HL1.out] at hx_
  have HZ1 : Aside0 (F1.length ≤ c4_) := ⟨hq_.2.1⟩
  have LE1 : Aside0 (w3.heap.size ≤ w4.heap.size) := ⟨hb_.size⟩
  have n0_ : Aside0 (Below w.heap.size w w4) := ⟨below_step HB.out hb_⟩
  have n1_ : Aside0 (Kd.R k104 104 w4 w.heap.size (fun k_ => w2.heap.size ≤ k_ ∧ k_ < w3.heap.size) (.slice A3_ G.length c3_) G) := ⟨Kd.R_below HW.out hb_⟩
  have m0_ : Aside0 (Kd.R (Kd.int .i64) 3 w4 w.heap.size (fun k_ => w3.heap.size ≤ k_ ∧ k_ < w4.heap.size) (.slice A4_ F1.length c4_) F1) := ⟨Kd.R_mono (Kd.R_lower (Kd.R_bound hR_) (below_size HB.out)) (fun k_ hk => ⟨hk.2.1, hk.2.2.1⟩)⟩
  have m1_ : Aside0 (Kd.R (Kd.int .i64) 3 w4 w.heap.size (fun k_ => w3.heap.size ≤ k_ ∧ k_ < w4.heap.size) (.slice A4_ l1.length c4_) l1) := ⟨Kd.R_mono (Kd.R_lower (Kd.R_bound hx_) (below_size HB.out)) (fun k_ hk => ⟨hk.2.1, hk.2.2.1⟩)⟩
  (try clear HB)
  (try clear HW)
  have HB := n0_
  have HW := n1_
  have HY1 := m0_
  have HX1 := m1_
  clear n0_ n1_ m0_ m1_
  clear hb_ hR_ hn_ hq_ hl_ hx_
  go_wp2_with fail
  refine (full_toIntS.calls k _ _ l2 false F2 w4 (Kd.C_below HR2.out HB.out) HC2.out HF2.out).mono ?_
  rintro e w5 hp_
  obtain ⟨A5_, n5_, c5_, rfl, hR_, hn_, hb_⟩ := hp_
  have hq_ := Kd.R_reads' hR_
  obtain rfl : n5_ = l2.length := (by rcases hn_ with h_ | ⟨h_, h2_⟩; exact h_; exact h2_.trans (by have h3_ := congrArg List.length HL2.out; rw [h_, List.length_take, List.length_nil, Nat.min_zero] at h3_; exact h3_))
  have hl_ : l2.length ≤ F2.length := by have h_ := congrArg List.length HL2.out; rw [List.length_take] at h_; omega
  have hx_ := Hw.R_take hR_ l2.length hl_
  rw [HL2.out] at hx_
  have HZ2 : Aside0 (F2.length ≤ c5_) := ⟨hq_.2.1⟩
  have LE2 : Aside0 (w4.heap.size ≤ w5.heap.size) := ⟨hb_.size⟩
  have n0_ : Aside0 (Below w.heap.size w w5) := ⟨below_step HB.out hb_⟩
  have n1_ : Aside0 (Kd.R k104 104 w5 w.heap.size (fun k_ => w2.heap.size ≤ k_ ∧ k_ < w3.heap.size) (.slice A3_ G.length c3_) G) := ⟨Kd.R_below HW.out hb_⟩
  have n2_ : Aside0 (Kd.R (Kd.int .i64) 3 w5 w.heap.size (fun k_ => w3.heap.size ≤ k_ ∧ k_ < w4.heap.size) (.slice A4_ F1.length c4_) F1) := ⟨Kd.R_below HY1.out hb_⟩
  have n3_ : Aside0 (Kd.R (Kd.int .i64) 3 w5 w.heap.size (fun k_ => w3.heap.size ≤ k_ ∧ k_ < w4.heap.size) (.slice A4_ l1.length c4_) l1) := ⟨Kd.R_below HX1.out hb_⟩
  have m0_ : Aside0 (Kd.R (Kd.int .i64) 3 w5 w.heap.size (fun k_ => w4.heap.size ≤ k_ ∧ k_ < w5.heap.size) (.slice A5_ F2.length c5_) F2) := ⟨Kd.R_mono (Kd.R_lower (Kd.R_bound hR_) (below_size HB.out)) (fun k_ hk => ⟨hk.2.1, hk.2.2.1⟩)⟩
  have m1_ : Aside0 (Kd.R (Kd.int .i64) 3 w5 w.heap.size (fun k_ => w4.heap.size ≤ k_ ∧ k_ < w5.heap.size) (.slice A5_ l2.length c5_) l2) := ⟨Kd.R_mono (Kd.R_lower (Kd.R_bound hx_) (below_size HB.out)) (fun k_ hk => ⟨hk.2.1, hk.2.2.1⟩)⟩
  (try clear HB)
  (try clear HW)
  (try clear HY1)
  (try clear HX1)
  have HB := n0_
  have HW := n1_
  have HY1 := n2_
  have HX1 := n3_
  have HY2 := m0_
  have HX2 := m1_
  clear n0_ n1_ n2_ n3_ m0_ m1_
  clear hb_ hR_ hn_ hq_ hl_ hx_
  go_wp2_with fail
  refine (impl_PlayHouses.calls a0 _ _ l1 _ _ l2 G r2 w5 (Kd.R_reads' HX1.out).2.2 (Kd.R_reads' HX1.out).2.1 (Kd.R_reads' HX2.out).2.2 (Kd.R_reads' HX2.out).2.1 H2.out).mono ?_
  rintro e w6 ⟨v_, rfl, ho_, hb_⟩
  obtain ⟨A6_, c6_, rfl⟩ := Kd.R_slice ho_
  have LE3 : Aside0 (w5.heap.size ≤ w6.heap.size) := ⟨hb_.size⟩
  have n0_ : Aside0 (Below w.heap.size w w6) := ⟨below_step HB.out hb_⟩
  have n1_ : Aside0 (Kd.R k104 104 w6 w.heap.size (fun k_ => w2.heap.size ≤ k_ ∧ k_ < w3.heap.size) (.slice A3_ G.length c3_) G) := ⟨Kd.R_below HW.out hb_⟩
  have n2_ : Aside0 (Kd.R (Kd.int .i64) 3 w6 w.heap.size (fun k_ => w3.heap.size ≤ k_ ∧ k_ < w4.heap.size) (.slice A4_ F1.length c4_) F1) := ⟨Kd.R_below HY1.out hb_⟩
  have n3_ : Aside0 (Kd.R (Kd.int .i64) 3 w6 w.heap.size (fun k_ => w3.heap.size ≤ k_ ∧ k_ < w4.heap.size) (.slice A4_ l1.length c4_) l1) := ⟨Kd.R_below HX1.out hb_⟩
  have n4_ : Aside0 (Kd.R (Kd.int .i64) 3 w6 w.heap.size (fun k_ => w4.heap.size ≤ k_ ∧ k_ < w5.heap.size) (.slice A5_ F2.length c5_) F2) := ⟨Kd.R_below HY2.out hb_⟩
  have n5_ : Aside0 (Kd.R (Kd.int .i64) 3 w6 w.heap.size (fun k_ => w4.heap.size ≤ k_ ∧ k_ < w5.heap.size) (.slice A5_ l2.length c5_) l2) := ⟨Kd.R_below HX2.out hb_⟩
  have m0_ : Aside0 (Kd.R k104 104 w6 w.heap.size (fun k_ => w5.heap.size ≤ k_ ∧ k_ < w6.heap.size) (.slice A6_ G.length c6_) G) := ⟨Kd.R_mono (Kd.R_lower (Kd.R_bound ho_) (below_size HB.out)) (fun k_ hk => ⟨hk.2.1, hk.2.2.1⟩)⟩
  (try clear HB)
  (try clear HW)
  (try clear HY1)
  (try clear HX1)
  (try clear HY2)
  (try clear HX2)
  have HB := n0_
  have HW := n1_
  have HY1 := n2_
  have HX1 := n3_
  have HY2 := n4_
  have HX2 := n5_
  have HG := m0_
  clear n0_ n1_ n2_ n3_ n4_ n5_ m0_
  clear hb_ ho_
  go_wp2_with fail
  refine (laws_eqHouseDropS.calls k _ _ G _ _ G true w6 (Kd.R_reads' HG.out).2.2 (Kd.R_reads' HG.out).2.1 (Kd.R_reads' HW.out).2.2 (Kd.R_reads' HW.out).2.1 HQ.out).mono ?_
  rintro e w7 ⟨rfl, hd_⟩
  have hb_ : Below w6.heap.size w6 w7 := (by first | exact hd_ | exact hd_.below)
  have n0_ : Aside0 (Below w.heap.size w w7) := ⟨below_step HB.out hb_⟩
  have n1_ : Aside0 (Kd.R k104 104 w7 w.heap.size (fun k_ => w2.heap.size ≤ k_ ∧ k_ < w3.heap.size) (.slice A3_ G.length c3_) G) := ⟨Kd.R_below HW.out hb_⟩
  have n2_ : Aside0 (Kd.R (Kd.int .i64) 3 w7 w.heap.size (fun k_ => w3.heap.size ≤ k_ ∧ k_ < w4.heap.size) (.slice A4_ F1.length c4_) F1) := ⟨Kd.R_below HY1.out hb_⟩
  have n3_ : Aside0 (Kd.R (Kd.int .i64) 3 w7 w.heap.size (fun k_ => w3.heap.size ≤ k_ ∧ k_ < w4.heap.size) (.slice A4_ l1.length c4_) l1) := ⟨Kd.R_below HX1.out hb_⟩
  have n4_ : Aside0 (Kd.R (Kd.int .i64) 3 w7 w.heap.size (fun k_ => w4.heap.size ≤ k_ ∧ k_ < w5.heap.size) (.slice A5_ F2.length c5_) F2) := ⟨Kd.R_below HY2.out hb_⟩
  have n5_ : Aside0 (Kd.R (Kd.int .i64) 3 w7 w.heap.size (fun k_ => w4.heap.size ≤ k_ ∧ k_ < w5.heap.size) (.slice A5_ l2.length c5_) l2) := ⟨Kd.R_below HX2.out hb_⟩
  have n6_ : Aside0 (Kd.R k104 104 w7 w.heap.size (fun k_ => w5.heap.size ≤ k_ ∧ k_ < w6.heap.size) (.slice A6_ G.length c6_) G) := ⟨Kd.R_below HG.out hb_⟩
  (try clear HB)
  (try clear HW)
  (try clear HY1)
  (try clear HX1)
  (try clear HY2)
  (try clear HX2)
  (try clear HG)
  have HB := n0_
  have HW := n1_
  have HY1 := n2_
  have HX1 := n3_
  have HY2 := n4_
  have HX2 := n5_
  have HG := n6_
  clear n0_ n1_ n2_ n3_ n4_ n5_ n6_
  clear hb_ hd_
  go_wp2_with fail
  refine (full_toIntS.calls k _ _ l1 false F1 w7 (Kd.C_below HR1.out HB.out) HC1.out HF1.out).mono ?_
  rintro e w8 hp_
  obtain ⟨A8_, n8_, c8_, rfl, hR_, hn_, hb_⟩ := hp_
  have hq_ := Kd.R_reads' hR_
  obtain rfl : n8_ = l1.length := (by rcases hn_ with h_ | ⟨h_, h2_⟩; exact h_; exact h2_.trans (by have h3_ := congrArg List.length HL1.out; rw [h_, List.length_take, List.length_nil, Nat.min_zero] at h3_; exact h3_))
  have hl_ : l1.length ≤ F1.length := by have h_ := congrArg List.length HL1.out; rw [List.length_take] at h_; omega
  have HE1_ : Aside0 (F1.length ≤ c8_) := ⟨hq_.2.1⟩
  have n0_ : Aside0 (Below w.heap.size w w8) := ⟨below_step HB.out hb_⟩
  have n1_ : Aside0 (Kd.R k104 104 w8 w.heap.size (fun k_ => w2.heap.size ≤ k_ ∧ k_ < w3.heap.size) (.slice A3_ G.length c3_) G) := ⟨Kd.R_below HW.out hb_⟩
  have n2_ : Aside0 (Kd.R (Kd.int .i64) 3 w8 w.heap.size (fun k_ => w3.heap.size ≤ k_ ∧ k_ < w4.heap.size) (.slice A4_ F1.length c4_) F1) := ⟨Kd.R_below HY1.out hb_⟩
  have n3_ : Aside0 (Kd.R (Kd.int .i64) 3 w8 w.heap.size (fun k_ => w3.heap.size ≤ k_ ∧ k_ < w4.heap.size) (.slice A4_ l1.length c4_) l1) := ⟨Kd.R_below HX1.out hb_⟩
  have n4_ : Aside0 (Kd.R (Kd.int .i64) 3 w8 w.heap.size (fun k_ => w4.heap.size ≤ k_ ∧ k_ < w5.heap.size) (.slice A5_ F2.length c5_) F2) := ⟨Kd.R_below HY2.out hb_⟩
  have n5_ : Aside0 (Kd.R (Kd.int .i64) 3 w8 w.heap.size (fun k_ => w4.heap.size ≤ k_ ∧ k_ < w5.heap.size) (.slice A5_ l2.length c5_) l2) := ⟨Kd.R_below HX2.out hb_⟩
  have n6_ : Aside0 (Kd.R k104 104 w8 w.heap.size (fun k_ => w5.heap.size ≤ k_ ∧ k_ < w6.heap.size) (.slice A6_ G.length c6_) G) := ⟨Kd.R_below HG.out hb_⟩
  have m0_ : Aside0 (Kd.C (Kd.int .i64) w8 A8_ F1.length F1) := ⟨hq_.2.2⟩
  (try clear HB)
  (try clear HW)
  (try clear HY1)
  (try clear HX1)
  (try clear HY2)
  (try clear HX2)
  (try clear HG)
  have HB := n0_
  have HW := n1_
  have HY1 := n2_
  have HX1 := n3_
  have HY2 := n4_
  have HX2 := n5_
  have HG := n6_
  have HD1 := m0_
  clear n0_ n1_ n2_ n3_ n4_ n5_ n6_ m0_
  clear hb_ hR_ hn_ hq_ hl_
  go_wp2_with fail
  refine (intact_IntS k F1 A4_ A8_ l1.length c4_ c8_ t1 w8 HQT1.out HN1.out HZ1.out HE1_.out (Kd.R_reads' HY1.out).2.2 HD1.out HE1.out).mono ?_
  rintro e w9 ⟨rfl, hd_⟩
  have hb_ : Below w8.heap.size w8 w9 := (by first | exact hd_ | exact hd_.below)
  have n0_ : Aside0 (Below w.heap.size w w9) := ⟨below_step HB.out hb_⟩
  have n1_ : Aside0 (Kd.R k104 104 w9 w.heap.size (fun k_ => w2.heap.size ≤ k_ ∧ k_ < w3.heap.size) (.slice A3_ G.length c3_) G) := ⟨Kd.R_below HW.out hb_⟩
  have n2_ : Aside0 (Kd.R (Kd.int .i64) 3 w9 w.heap.size (fun k_ => w3.heap.size ≤ k_ ∧ k_ < w4.heap.size) (.slice A4_ F1.length c4_) F1) := ⟨Kd.R_below HY1.out hb_⟩
  have n3_ : Aside0 (Kd.R (Kd.int .i64) 3 w9 w.heap.size (fun k_ => w3.heap.size ≤ k_ ∧ k_ < w4.heap.size) (.slice A4_ l1.length c4_) l1) := ⟨Kd.R_below HX1.out hb_⟩
  have n4_ : Aside0 (Kd.R (Kd.int .i64) 3 w9 w.heap.size (fun k_ => w4.heap.size ≤ k_ ∧ k_ < w5.heap.size) (.slice A5_ F2.length c5_) F2) := ⟨Kd.R_below HY2.out hb_⟩
  have n5_ : Aside0 (Kd.R (Kd.int .i64) 3 w9 w.heap.size (fun k_ => w4.heap.size ≤ k_ ∧ k_ < w5.heap.size) (.slice A5_ l2.length c5_) l2) := ⟨Kd.R_below HX2.out hb_⟩
  have n6_ : Aside0 (Kd.R k104 104 w9 w.heap.size (fun k_ => w5.heap.size ≤ k_ ∧ k_ < w6.heap.size) (.slice A6_ G.length c6_) G) := ⟨Kd.R_below HG.out hb_⟩
  (try clear HB)
  (try clear HW)
  (try clear HY1)
  (try clear HX1)
  (try clear HY2)
  (try clear HX2)
  (try clear HG)
  (try clear HD1)
  have HB := n0_
  have HW := n1_
  have HY1 := n2_
  have HX1 := n3_
  have HY2 := n4_
  have HX2 := n5_
  have HG := n6_
  clear n0_ n1_ n2_ n3_ n4_ n5_ n6_
  clear hb_ hd_
  go_wp2_with fail
  refine (full_toIntS.calls k _ _ l2 false F2 w9 (Kd.C_below HR2.out HB.out) HC2.out HF2.out).mono ?_
  rintro e w10 hp_
  obtain ⟨A10_, n10_, c10_, rfl, hR_, hn_, hb_⟩ := hp_
  have hq_ := Kd.R_reads' hR_
  obtain rfl : n10_ = l2.length := (by rcases hn_ with h_ | ⟨h_, h2_⟩; exact h_; exact h2_.trans (by have h3_ := congrArg List.length HL2.out; rw [h_, List.length_take, List.length_nil, Nat.min_zero] at h3_; exact h3_))
  have hl_ : l2.length ≤ F2.length := by have h_ := congrArg List.length HL2.out; rw [List.length_take] at h_; omega
  have HE2_ : Aside0 (F2.length ≤ c10_) := ⟨hq_.2.1⟩
  have n0_ : Aside0 (Below w.heap.size w w10) := ⟨below_step HB.out hb_⟩
  have n1_ : Aside0 (Kd.R k104 104 w10 w.heap.size (fun k_ => w2.heap.size ≤ k_ ∧ k_ < w3.heap.size) (.slice A3_ G.length c3_) G) := ⟨Kd.R_below HW.out hb_⟩
  have n2_ : Aside0 (Kd.R (Kd.int .i64) 3 w10 w.heap.size (fun k_ => w3.heap.size ≤ k_ ∧ k_ < w4.heap.size) (.slice A4_ F1.length c4_) F1) := ⟨Kd.R_below HY1.out hb_⟩
  have n3_ : Aside0 (Kd.R (Kd.int .i64) 3 w10 w.heap.size (fun k_ => w3.heap.size ≤ k_ ∧ k_ < w4.heap.size) (.slice A4_ l1.length c4_) l1) := ⟨Kd.R_below HX1.out hb_⟩
  have n4_ : Aside0 (Kd.R (Kd.int .i64) 3 w10 w.heap.size (fun k_ => w4.heap.size ≤ k_ ∧ k_ < w5.heap.size) (.slice A5_ F2.length c5_) F2) := ⟨Kd.R_below HY2.out hb_⟩
  have n5_ : Aside0 (Kd.R (Kd.int .i64) 3 w10 w.heap.size (fun k_ => w4.heap.size ≤ k_ ∧ k_ < w5.heap.size) (.slice A5_ l2.length c5_) l2) := ⟨Kd.R_below HX2.out hb_⟩
  have n6_ : Aside0 (Kd.R k104 104 w10 w.heap.size (fun k_ => w5.heap.size ≤ k_ ∧ k_ < w6.heap.size) (.slice A6_ G.length c6_) G) := ⟨Kd.R_below HG.out hb_⟩
  have m0_ : Aside0 (Kd.C (Kd.int .i64) w10 A10_ F2.length F2) := ⟨hq_.2.2⟩
  (try clear HB)
  (try clear HW)
  (try clear HY1)
  (try clear HX1)
  (try clear HY2)
  (try clear HX2)
  (try clear HG)
  have HB := n0_
  have HW := n1_
  have HY1 := n2_
  have HX1 := n3_
  have HY2 := n4_
  have HX2 := n5_
  have HG := n6_
  have HD2 := m0_
  clear n0_ n1_ n2_ n3_ n4_ n5_ n6_ m0_
  clear hb_ hR_ hn_ hq_ hl_
  go_wp2_with fail
  refine (intact_IntS k F2 A5_ A10_ l2.length c5_ c10_ t2 w10 HQT2.out HN2.out HZ2.out HE2_.out (Kd.R_reads' HY2.out).2.2 HD2.out HE2.out).mono ?_
  rintro e w11 ⟨rfl, hd_⟩
  have hb_ : Below w10.heap.size w10 w11 := (by first | exact hd_ | exact hd_.below)
  have n0_ : Aside0 (Below w.heap.size w w11) := ⟨below_step HB.out hb_⟩
  have n1_ : Aside0 (Kd.R k104 104 w11 w.heap.size (fun k_ => w2.heap.size ≤ k_ ∧ k_ < w3.heap.size) (.slice A3_ G.length c3_) G) := ⟨Kd.R_below HW.out hb_⟩
  have n2_ : Aside0 (Kd.R (Kd.int .i64) 3 w11 w.heap.size (fun k_ => w3.heap.size ≤ k_ ∧ k_ < w4.heap.size) (.slice A4_ F1.length c4_) F1) := ⟨Kd.R_below HY1.out hb_⟩
  have n3_ : Aside0 (Kd.R (Kd.int .i64) 3 w11 w.heap.size (fun k_ => w3.heap.size ≤ k_ ∧ k_ < w4.heap.size) (.slice A4_ l1.length c4_) l1) := ⟨Kd.R_below HX1.out hb_⟩
  have n4_ : Aside0 (Kd.R (Kd.int .i64) 3 w11 w.heap.size (fun k_ => w4.heap.size ≤ k_ ∧ k_ < w5.heap.size) (.slice A5_ F2.length c5_) F2) := ⟨Kd.R_below HY2.out hb_⟩
  have n5_ : Aside0 (Kd.R (Kd.int .i64) 3 w11 w.heap.size (fun k_ => w4.heap.size ≤ k_ ∧ k_ < w5.heap.size) (.slice A5_ l2.length c5_) l2) := ⟨Kd.R_below HX2.out hb_⟩
  have n6_ : Aside0 (Kd.R k104 104 w11 w.heap.size (fun k_ => w5.heap.size ≤ k_ ∧ k_ < w6.heap.size) (.slice A6_ G.length c6_) G) := ⟨Kd.R_below HG.out hb_⟩
  (try clear HB)
  (try clear HW)
  (try clear HY1)
  (try clear HX1)
  (try clear HY2)
  (try clear HX2)
  (try clear HG)
  (try clear HD2)
  have HB := n0_
  have HW := n1_
  have HY1 := n2_
  have HX1 := n3_
  have HY2 := n4_
  have HX2 := n5_
  have HG := n6_
  clear n0_ n1_ n2_ n3_ n4_ n5_ n6_
  clear hb_ hd_
  go_wp2_with fail
  refine (laws_markIntS.calls k _ _ l1 101 m1 Lx1 w w11 HB.out HX1.out HMX1.out).mono ?_
  rintro e w12 ⟨rfl, hx_, hb_, hk_⟩
  clear hx_
  have n0_ : Aside0 (Below w.heap.size w w12) := ⟨hb_⟩
  have n1_ : Aside0 (Kd.R k104 104 w12 w.heap.size (fun k_ => w2.heap.size ≤ k_ ∧ k_ < w3.heap.size) (.slice A3_ G.length c3_) G) := ⟨Kd.R_kept HW.out hk_ (fun k_ h1_ h2_ => by have := LE0.out; have := LE1.out; have := LE2.out; have := LE3.out; omega)⟩
  have n2_ : Aside0 (Kd.R (Kd.int .i64) 3 w12 w.heap.size (fun k_ => w4.heap.size ≤ k_ ∧ k_ < w5.heap.size) (.slice A5_ F2.length c5_) F2) := ⟨Kd.R_kept HY2.out hk_ (fun k_ h1_ h2_ => by have := LE0.out; have := LE1.out; have := LE2.out; have := LE3.out; omega)⟩
  have n3_ : Aside0 (Kd.R (Kd.int .i64) 3 w12 w.heap.size (fun k_ => w4.heap.size ≤ k_ ∧ k_ < w5.heap.size) (.slice A5_ l2.length c5_) l2) := ⟨Kd.R_kept HX2.out hk_ (fun k_ h1_ h2_ => by have := LE0.out; have := LE1.out; have := LE2.out; have := LE3.out; omega)⟩
  have n4_ : Aside0 (Kd.R k104 104 w12 w.heap.size (fun k_ => w5.heap.size ≤ k_ ∧ k_ < w6.heap.size) (.slice A6_ G.length c6_) G) := ⟨Kd.R_kept HG.out hk_ (fun k_ h1_ h2_ => by have := LE0.out; have := LE1.out; have := LE2.out; have := LE3.out; omega)⟩
  (try clear HB)
  (try clear HW)
  (try clear HY1)
  (try clear HX1)
  (try clear HY2)
  (try clear HX2)
  (try clear HG)
  have HB := n0_
  have HW := n1_
  have HY2 := n2_
  have HX2 := n3_
  have HG := n4_
  clear n0_ n1_ n2_ n3_ n4_
  clear hb_ hk_
  go_wp2_with fail
  refine (laws_markIntS.calls k _ _ l2 m1 m2 Lx2 w w12 HB.out HX2.out HMX2.out).mono ?_
  rintro e w13 ⟨rfl, hx_, hb_, hk_⟩
  clear hx_
  have n0_ : Aside0 (Below w.heap.size w w13) := ⟨hb_⟩
  have n1_ : Aside0 (Kd.R k104 104 w13 w.heap.size (fun k_ => w2.heap.size ≤ k_ ∧ k_ < w3.heap.size) (.slice A3_ G.length c3_) G) := ⟨Kd.R_kept HW.out hk_ (fun k_ h1_ h2_ => by have := LE0.out; have := LE1.out; have := LE2.out; have := LE3.out; omega)⟩
  have n2_ : Aside0 (Kd.R k104 104 w13 w.heap.size (fun k_ => w5.heap.size ≤ k_ ∧ k_ < w6.heap.size) (.slice A6_ G.length c6_) G) := ⟨Kd.R_kept HG.out hk_ (fun k_ h1_ h2_ => by have := LE0.out; have := LE1.out; have := LE2.out; have := LE3.out; omega)⟩
  (try clear HB)
  (try clear HW)
  (try clear HY2)
  (try clear HX2)
  (try clear HG)
  have HB := n0_
  have HW := n1_
  have HG := n2_
  clear n0_ n1_ n2_
  clear hb_ hk_
  go_wp2_with fail
  refine (laws_eqHouseDropS.calls k _ _ G _ _ G true w13 (Kd.R_reads' HG.out).2.2 (Kd.R_reads' HG.out).2.1 (Kd.R_reads' HW.out).2.2 (Kd.R_reads' HW.out).2.1 HQ.out).mono ?_
  rintro e w14 ⟨rfl, hd_⟩
  have hb_ : Below w13.heap.size w13 w14 := (by first | exact hd_ | exact hd_.below)
  have n0_ : Aside0 (Below w.heap.size w w14) := ⟨below_step HB.out hb_⟩
  have n1_ : Aside0 (Kd.R k104 104 w14 w.heap.size (fun k_ => w2.heap.size ≤ k_ ∧ k_ < w3.heap.size) (.slice A3_ G.length c3_) G) := ⟨Kd.R_below HW.out hb_⟩
  have n2_ : Aside0 (Kd.R k104 104 w14 w.heap.size (fun k_ => w5.heap.size ≤ k_ ∧ k_ < w6.heap.size) (.slice A6_ G.length c6_) G) := ⟨Kd.R_below HG.out hb_⟩
  (try clear HB)
  (try clear HW)
  (try clear HG)
  have HB := n0_
  have HW := n1_
  have HG := n2_
  clear n0_ n1_ n2_
  clear hb_ hd_
  go_wp2_with fail
  refine (laws_markHouseDropS.calls k _ _ G 101 m Gm w w14 HB.out HG.out HMG.out).mono ?_
  rintro e w15 ⟨rfl, hx_, hb_, hk_⟩
  have n0_ : Aside0 (Below w.heap.size w w15) := ⟨hb_⟩
  have n1_ : Aside0 (Kd.R k104 104 w15 w.heap.size (fun k_ => w2.heap.size ≤ k_ ∧ k_ < w3.heap.size) (.slice A3_ G.length c3_) G) := ⟨Kd.R_kept HW.out hk_ (fun k_ h1_ h2_ => by have := LE0.out; have := LE1.out; have := LE2.out; have := LE3.out; omega)⟩
  have m0_ : Aside0 (Kd.R k104 104 w15 w.heap.size (fun k_ => True) (.slice A6_ G.length c6_) Gm) := ⟨by have h_ := Kd.R_mono hx_ (fun _ _ => trivial); rw [← HGm.out] at h_ ⊢; exact h_⟩
  (try clear HB)
  (try clear HW)
  (try clear HG)
  have HB := n0_
  have HW := n1_
  have HM := m0_
  clear n0_ n1_ m0_
  clear hx_ hb_ hk_
  go_wp2_with fail
  have hcall := laws_heldHouseDropS.calls k A6_ c6_ Gm 101 m w15 (Kd.R_reads' (by have h_ := HM.out; rw [← HGm.out] at h_; exact h_)).2.2 (Kd.R_reads' (by have h_ := HM.out; rw [← HGm.out] at h_; exact h_)).2.1 HHG.out
  rw [HGm.out] at hcall
  refine hcall.mono ?_
  clear hcall
  rintro e w16 ⟨rfl, hd_⟩
  have hb_ : Below w15.heap.size w15 w16 := (by first | exact hd_ | exact hd_.below)
  have n0_ : Aside0 (Below w.heap.size w w16) := ⟨below_step HB.out hb_⟩
  have n1_ : Aside0 (Kd.R k104 104 w16 w.heap.size (fun k_ => w2.heap.size ≤ k_ ∧ k_ < w3.heap.size) (.slice A3_ G.length c3_) G) := ⟨Kd.R_below HW.out hb_⟩
  have n2_ : Aside0 (Kd.R k104 104 w16 w.heap.size (fun k_ => True) (.slice A6_ G.length c6_) Gm) := ⟨Kd.R_below HM.out hb_⟩
  (try clear HB)
  (try clear HW)
  (try clear HM)
  have HB := n0_
  have HW := n1_
  have HM := n2_
  clear n0_ n1_ n2_
  clear hb_ hd_
  go_wp2_with fail
  refine (full_toIntS.calls k _ _ l1 true F1' w16 (Kd.C_below HR1.out HB.out) HC1.out HF1t.out).mono ?_
  rintro e w17 hp_
  obtain ⟨A17_, n17_, c17_, rfl, hR_, hn_, hb_⟩ := hp_
  have hq_ := Kd.R_reads' hR_
  obtain ⟨rfl, h131_, h132_⟩ := toTrueI F1 F1' l1 w17 A17_ n17_ c17_ HF01.out HF21.out HL1.out hq_.2.1 hq_.2.2 hn_
  have HU1 : Aside0 (l1.length ≤ c17_) := ⟨h132_⟩
  clear h132_
  have n0_ : Aside0 (Below w.heap.size w w17) := ⟨below_step HB.out hb_⟩
  have n1_ : Aside0 (Kd.R k104 104 w17 w.heap.size (fun k_ => w2.heap.size ≤ k_ ∧ k_ < w3.heap.size) (.slice A3_ G.length c3_) G) := ⟨Kd.R_below HW.out hb_⟩
  have n2_ : Aside0 (Kd.R k104 104 w17 w.heap.size (fun k_ => True) (.slice A6_ G.length c6_) Gm) := ⟨Kd.R_below HM.out hb_⟩
  have m0_ : Aside0 (Kd.C (Kd.int .i64) w17 A17_ l1.length l1) := ⟨h131_⟩
  (try clear HB)
  (try clear HW)
  (try clear HM)
  have HB := n0_
  have HW := n1_
  have HM := n2_
  have HT1 := m0_
  clear n0_ n1_ n2_ m0_
  clear hb_ hR_ hn_ hq_
  go_wp2_with fail
  refine (full_toIntS.calls k _ _ l2 true F2' w17 (Kd.C_below HR2.out HB.out) HC2.out HF2t.out).mono ?_
  rintro e w18 hp_
  obtain ⟨A18_, n18_, c18_, rfl, hR_, hn_, hb_⟩ := hp_
  have hq_ := Kd.R_reads' hR_
  obtain ⟨rfl, h131_, h132_⟩ := toTrueI F2 F2' l2 w18 A18_ n18_ c18_ HF02.out HF22.out HL2.out hq_.2.1 hq_.2.2 hn_
  have HU2 : Aside0 (l2.length ≤ c18_) := ⟨h132_⟩
  clear h132_
  have n0_ : Aside0 (Below w.heap.size w w18) := ⟨below_step HB.out hb_⟩
  have n1_ : Aside0 (Kd.R k104 104 w18 w.heap.size (fun k_ => w2.heap.size ≤ k_ ∧ k_ < w3.heap.size) (.slice A3_ G.length c3_) G) := ⟨Kd.R_below HW.out hb_⟩
  have n2_ : Aside0 (Kd.R k104 104 w18 w.heap.size (fun k_ => True) (.slice A6_ G.length c6_) Gm) := ⟨Kd.R_below HM.out hb_⟩
  have n3_ : Aside0 (Kd.C (Kd.int .i64) w18 A17_ l1.length l1) := ⟨Kd.C_below HT1.out hb_⟩
  have m0_ : Aside0 (Kd.C (Kd.int .i64) w18 A18_ l2.length l2) := ⟨h131_⟩
  (try clear HB)
  (try clear HW)
  (try clear HM)
  (try clear HT1)
  have HB := n0_
  have HW := n1_
  have HM := n2_
  have HT1 := n3_
  have HT2 := m0_
  clear n0_ n1_ n2_ n3_ m0_
  clear hb_ hR_ hn_ hq_
  go_wp2_with fail
  refine (impl_PlayHouses.calls a0 _ _ l1 _ _ l2 G r2 w18 HT1.out HU1.out HT2.out HU2.out H2.out).mono ?_
  rintro e w19 ⟨v_, rfl, ho_, hb_⟩
  obtain ⟨A19_, c19_, rfl⟩ := Kd.R_slice ho_
  have LE4 : Aside0 (w18.heap.size ≤ w19.heap.size) := ⟨hb_.size⟩
  have n0_ : Aside0 (Below w.heap.size w w19) := ⟨below_step HB.out hb_⟩
  have n1_ : Aside0 (Kd.R k104 104 w19 w.heap.size (fun k_ => w2.heap.size ≤ k_ ∧ k_ < w3.heap.size) (.slice A3_ G.length c3_) G) := ⟨Kd.R_below HW.out hb_⟩
  have n2_ : Aside0 (Kd.R k104 104 w19 w.heap.size (fun k_ => True) (.slice A6_ G.length c6_) Gm) := ⟨Kd.R_below HM.out hb_⟩
  have n3_ : Aside0 (Kd.C (Kd.int .i64) w19 A17_ l1.length l1) := ⟨Kd.C_below HT1.out hb_⟩
  have n4_ : Aside0 (Kd.C (Kd.int .i64) w19 A18_ l2.length l2) := ⟨Kd.C_below HT2.out hb_⟩
  have m0_ : Aside0 (Kd.R k104 104 w19 w.heap.size (fun k_ => w18.heap.size ≤ k_ ∧ k_ < w19.heap.size) (.slice A19_ G.length c19_) G) := ⟨Kd.R_mono (Kd.R_lower (Kd.R_bound ho_) (below_size HB.out)) (fun k_ hk => ⟨hk.2.1, hk.2.2.1⟩)⟩
  (try clear HB)
  (try clear HW)
  (try clear HM)
  (try clear HT1)
  (try clear HT2)
  have HB := n0_
  have HW := n1_
  have HM := n2_
  have HT1 := n3_
  have HT2 := n4_
  have HH := m0_
  clear n0_ n1_ n2_ n3_ n4_ m0_
  clear hb_ ho_
  go_wp2_with fail
  refine (laws_eqHouseDropS.calls k _ _ G _ _ G true w19 (Kd.R_reads' HH.out).2.2 (Kd.R_reads' HH.out).2.1 (Kd.R_reads' HW.out).2.2 (Kd.R_reads' HW.out).2.1 HQ.out).mono ?_
  rintro e w20 ⟨rfl, hd_⟩
  have hb_ : Below w19.heap.size w19 w20 := (by first | exact hd_ | exact hd_.below)
  have n0_ : Aside0 (Below w.heap.size w w20) := ⟨below_step HB.out hb_⟩
  have n1_ : Aside0 (Kd.R k104 104 w20 w.heap.size (fun k_ => w2.heap.size ≤ k_ ∧ k_ < w3.heap.size) (.slice A3_ G.length c3_) G) := ⟨Kd.R_below HW.out hb_⟩
  have n2_ : Aside0 (Kd.R k104 104 w20 w.heap.size (fun k_ => True) (.slice A6_ G.length c6_) Gm) := ⟨Kd.R_below HM.out hb_⟩
  have n3_ : Aside0 (Kd.C (Kd.int .i64) w20 A17_ l1.length l1) := ⟨Kd.C_below HT1.out hb_⟩
  have n4_ : Aside0 (Kd.C (Kd.int .i64) w20 A18_ l2.length l2) := ⟨Kd.C_below HT2.out hb_⟩
  have n5_ : Aside0 (Kd.R k104 104 w20 w.heap.size (fun k_ => w18.heap.size ≤ k_ ∧ k_ < w19.heap.size) (.slice A19_ G.length c19_) G) := ⟨Kd.R_below HH.out hb_⟩
  (try clear HB)
  (try clear HW)
  (try clear HM)
  (try clear HT1)
  (try clear HT2)
  (try clear HH)
  have HB := n0_
  have HW := n1_
  have HM := n2_
  have HT1 := n3_
  have HT2 := n4_
  have HH := n5_
  clear n0_ n1_ n2_ n3_ n4_ n5_
  clear hb_ hd_
  go_wp2_with fail
  have hcall := laws_heldHouseDropS.calls k A6_ c6_ Gm 101 m w20 (Kd.R_reads' (by have h_ := HM.out; rw [← HGm.out] at h_; exact h_)).2.2 (Kd.R_reads' (by have h_ := HM.out; rw [← HGm.out] at h_; exact h_)).2.1 HHG.out
  rw [HGm.out] at hcall
  refine hcall.mono ?_
  clear hcall
  rintro e w21 ⟨rfl, hd_⟩
  have hb_ : Below w20.heap.size w20 w21 := (by first | exact hd_ | exact hd_.below)
  have n0_ : Aside0 (Below w.heap.size w w21) := ⟨below_step HB.out hb_⟩
  have n1_ : Aside0 (Kd.R k104 104 w21 w.heap.size (fun k_ => w2.heap.size ≤ k_ ∧ k_ < w3.heap.size) (.slice A3_ G.length c3_) G) := ⟨Kd.R_below HW.out hb_⟩
  have n2_ : Aside0 (Kd.R k104 104 w21 w.heap.size (fun k_ => True) (.slice A6_ G.length c6_) Gm) := ⟨Kd.R_below HM.out hb_⟩
  have n3_ : Aside0 (Kd.C (Kd.int .i64) w21 A17_ l1.length l1) := ⟨Kd.C_below HT1.out hb_⟩
  have n4_ : Aside0 (Kd.C (Kd.int .i64) w21 A18_ l2.length l2) := ⟨Kd.C_below HT2.out hb_⟩
  have n5_ : Aside0 (Kd.R k104 104 w21 w.heap.size (fun k_ => w18.heap.size ≤ k_ ∧ k_ < w19.heap.size) (.slice A19_ G.length c19_) G) := ⟨Kd.R_below HH.out hb_⟩
  (try clear HB)
  (try clear HW)
  (try clear HM)
  (try clear HT1)
  (try clear HT2)
  (try clear HH)
  have HB := n0_
  have HW := n1_
  have HM := n2_
  have HT1 := n3_
  have HT2 := n4_
  have HH := n5_
  clear n0_ n1_ n2_ n3_ n4_ n5_
  clear hb_ hd_
  go_wp2
  go_ret
  exact ⟨rfl, HB.out⟩

set_option maxHeartbeats 8000000 in
set_option maxRecDepth 100000 in
theorem big_FnExactPlayHouses (a0 : Int) (A1 : Option Addr) (c1 : Nat) (l1 : List Int) (A2 : Option Addr) (c2 : Nat) (l2 : List Int) (w : World) (hb : (l1.length : Int) + (l2.length : Int) > 1000000) (hm : (l1.length : Int) + (l2.length : Int) ≤ 9223372036854775807) :
    Calls Try.prog 12 #[.int .i64 a0, .slice A1 l1.length c1, .slice A2 l2.length c2] w fun e w' => e = .returned (.bool true) ∧ Below w.heap.size w w' := by
  have wsum_ : IntKind.i64.wrap ((l1.length : Int) + (l2.length : Int)) = (l1.length : Int) + (l2.length : Int) := Hw.wrap_w (by omega) hm
  have dbig : decide ((l1.length : Int) + (l2.length : Int) > 1000000) = true := decide_eq_true hb
  have dbig2 : decide (1000000 < (l1.length : Int) + (l2.length : Int)) = true := decide_eq_true hb
  have dbig3 : decide (l1.length + l2.length > 1000000) = true := decide_eq_true (by omega)
  clear hb hm
  go_enter Try.func12, Try.ntmps12
  go_wp2
  go_ret
  exact ⟨rfl, by repeat (first | exact Below.refl _ _ | apply below_drew1 | apply pw_below_drewN)⟩


end Go.Proofs.Ytoomacelbhojhaa.A
