/- Plain Lean functions with the answers of Go functions, and proofs of it: printed by a program of this session (pr.py) over the kit's print, with hand-written parts. -/
import Derived.Test.YtoomacelbhojhaaUx0
import Derived.Test.YtoomacelbhojhaaUx3
import Derived.Test.YtoomacelbhojhaaUx4
import Derived.Test.YtoomacelbhojhaaUx5
import Derived.Test.YtoomacelbhojhaaUx6
import Derived.Test.YtoomacelbhojhaaUx7
import Derived.Test.YtoomacelbhojhaaUx8
namespace Go.Proofs.Ytoomacelbhojhaa.U
open Go.RowKit Go.Proofs.YtoomacelbhojhaaW.PrintWords Go.Proofs.YtoomacelbhojhaaW.PrintLast Go.Proofs.YtoomacelbhojhaaW.PrintMore
attribute [local go_sem] max2_int min2_int max_two min_two max_three min_three max_four min_four   -- for this text's walks alone
set_option linter.unusedVariables false
set_option linter.unusedSimpArgs false

-- FOR impl.allBreaks
-- CALLS slices.Clone[[]int,int] ; spec.hoDrops
-- USES kd [][]int
-- USES info int
-- USES info []int
/-! ### All breaks of houses, in order -/
def stepB (out : List (List Int)) (n : Int) : List (List Int) := out.flatMap fun b => (List.range (n + 1).toNat).map fun i : Nat => b ++ [(i : Int)]
def allB (l : List Int) : List (List Int) := l.foldl stepB [[]]
theorem stepB_app (xs ys : List (List Int)) (n : Int) : stepB (xs ++ ys) n = stepB xs n ++ stepB ys n := by simp [stepB]
theorem foldB_app (r : List Int) : ∀ xs ys : List (List Int), r.foldl stepB (xs ++ ys) = r.foldl stepB xs ++ r.foldl stepB ys := by
  induction r with
  | nil => intro xs ys; rfl
  | cons n r ih => intro xs ys; rw [List.foldl_cons, List.foldl_cons, List.foldl_cons, stepB_app, ih]
theorem foldB_nil (r : List Int) : r.foldl stepB [] = [] := by
  induction r with
  | nil => rfl
  | cons n r ih => rw [List.foldl_cons]; exact ih
theorem stepB_mem {out : List (List Int)} {n : Int} {k : Nat} (h : ∀ x ∈ out, x.length = k) : ∀ x ∈ stepB out n, x.length = k + 1 := by
  intro x hx
  unfold stepB at hx
  obtain ⟨b, hb, hx⟩ := List.mem_flatMap.1 hx
  obtain ⟨i, _, rfl⟩ := List.mem_map.1 hx
  rw [List.length_append, h b hb]
  rfl
theorem stepB_len {out : List (List Int)} {n : Int} (hn : 0 ≤ n ∧ n ≤ 8) : (stepB out n).length ≤ out.length * 9 := by
  induction out with
  | nil => simp [stepB]
  | cons b out ih =>
    have h1 : stepB (b :: out) n = ((List.range (n + 1).toNat).map fun i : Nat => b ++ [(i : Int)]) ++ stepB out n := by simp [stepB]
    rw [h1, List.length_append, List.length_map, List.length_range, List.length_cons]
    omega
theorem foldB_mem (r : List Int) : ∀ (out : List (List Int)) (k : Nat), (∀ x ∈ out, x.length = k) → ∀ x ∈ r.foldl stepB out, x.length = k + r.length := by
  induction r with
  | nil => intro out k h x hx; exact h x hx
  | cons n r ih =>
    intro out k h x hx
    rw [List.foldl_cons] at hx
    rw [ih _ (k + 1) (stepB_mem h) x hx, List.length_cons]
    omega
theorem foldB_len (r : List Int) : ∀ (out : List (List Int)), (∀ x ∈ r, 0 ≤ x ∧ x ≤ 8) → (r.foldl stepB out).length ≤ out.length * 9 ^ r.length := by
  induction r with
  | nil => intro out h; simp
  | cons n r ih =>
    intro out h
    rw [List.foldl_cons]
    have h1 := ih (stepB out n) (fun x hx => h x (by simp [hx]))
    have h2 := stepB_len (out := out) (h n (by simp))
    refine Nat.le_trans h1 ?_
    rw [List.length_cons, Nat.pow_succ, Nat.mul_comm (9 ^ r.length) 9, ← Nat.mul_assoc]
    exact Nat.mul_le_mul_right _ h2
theorem allB_len {l : List Int} (hl : LGood l) : (allB l).length ≤ 729 := by
  have h := foldB_len l [[]] hl.2.2
  have h2 : 9 ^ l.length ≤ 9 ^ 3 := Nat.pow_le_pow_right (by omega) hl.2.1
  have h3 : (9 : Nat) ^ 3 = 729 := by decide
  unfold allB
  simp at h
  omega
theorem allB_mem {l : List Int} : ∀ x ∈ allB l, x.length = l.length := by
  intro x hx
  have := foldB_mem l [[]] 0 (by simp) x hx
  omega
theorem rowB (b : List Int) (n : Int) (hn : 0 ≤ n) : stepB [b] n = (List.range (n.toNat + 1)).map fun i : Nat => b ++ [(i : Int)] := by
  unfold stepB
  rw [show (n + 1).toNat = n.toNat + 1 by omega]
  simp
theorem rdB (l : List Int) {i : Nat} (hi : i < l.length) : rd l (i : Int) = l[i] := by
  simp [rd, List.getD_eq_getElem?_getD, List.getElem?_eq_getElem hi]

theorem rep_one {W : World} {base : Nat} {ok : Nat → Prop} {A : Option Addr} {c : Nat} (h : Kd.R (Kd.int .i64) 3 W base ok (.slice A 0 c) []) : ∀ (j : Nat) (x : List Int), ([[]] : List (List Int))[j]? = some x → (Kd.slice 3 (Kd.int .i64)).M W base (fun k => j = 0 ∧ some k = (Value.slice A 0 c).ownBlock) x ((([.slice A 0 c] : List Value).drop (j * (Kd.slice 3 (Kd.int .i64)).sz)).take (Kd.slice 3 (Kd.int .i64)).sz) := by
  intro j x hx
  cases j with
  | zero =>
    have h0 : [] = x := by simpa using hx
    subst h0
    exact ⟨_, rfl, Kd.R_mono (Kd.R_tight rfl h) (fun k hk => ⟨rfl, hk⟩)⟩
  | succ j => simp at hx
set_option maxHeartbeats 80000000 in
set_option maxRecDepth 100000 in
theorem allB_of (l : List Int) (hl : LGood l) (r : List (List Int)) (hr : r = allB l) (A : Option Addr) (c : Nat) (hc : l.length ≤ c) (w : World) (hL : Kd.C (Kd.int .i64) w A l.length l) :
    Calls Try.prog 94 #[.slice A l.length c] w fun e_ w' => ∃ v_ : Value, e_ = .returned v_ ∧ Kd.S (Kd.slice 3 (Kd.int .i64)) 46 w' w.heap.size (fun _ => True) v_ r ∧ Below w.heap.size w w' := by
  have HA := Aside0.mk hL
  have HLG := Aside0.mk hl
  have HR_ := Aside0.mk hr
  obtain ⟨ad, rfl, hx00⟩ := Kd.at_int hL 0 (by omega) (by have := hl.1; omega)
  have HR_2 : Aside0 ((l.drop 0).foldl stepB [[]] = r) := ⟨by rw [hr]; rfl⟩
  have HP9 : Aside0 (([[]] : List (List Int)).length * 9 ^ l.length ≤ 729) := ⟨by
    have h2 : 9 ^ l.length ≤ 9 ^ 3 := Nat.pow_le_pow_right (by omega) hl.2.1
    have h3 : (9 : Nat) ^ 3 = 729 := by decide
    simp
    omega⟩
  clear hL hl hr hc hx00
  go_enter Try.func94, Try.ntmps94
  go_upto_region 2 with (first | ((with_reducible refine gate_dst (N := 10) rfl ?_); refine Kd.R_lit (Kd.int .i64) _ 3 ?hg (N := 10) ?hd (xs := ([] : List Int)) (inner := []) (ok := fun _ => True) (okp := fun _ => True) ?hr ?hp (fun _ hk => hk) trivial (Below.refl _ _) (Nat.le_refl _) (by simp) ?_; (case hd => rfl); (case hg => rfl); (case hr => first | (go_simp; done) | (go_simp; rfl)); (case hp => exact Reps.none _ _); intro v10_ w_a ho_ hb_ hg_ hn_; clear hg_ hn_; obtain ⟨A10, c10, e10_⟩ := Kd.R_slice ho_; subst e10_; have E0 := Aside0.mk ho_; have HBa := Aside0.mk hb_; clear ho_ hb_) | ((with_reducible refine gate_dst (N := 11) rfl ?_); refine Kd.S_lits (Kd.slice 3 (Kd.int .i64)) w.heap.size 46 ?hg (N := 11) ?hd (xs := ([[]] : List (List Int))) (inner := [.slice A10 0 c10]) (ok := fun k_ => w.heap.size ≤ k_) (fun j_ k_ => j_ = 0 ∧ some k_ = (Value.slice A10 0 c10).ownBlock) ?hr rfl (rep_one E0.out) (fun i_ j_ k_ h1_ h2_ => by rw [h1_.1, h2_.1]) (fun j_ k_ h_ => Kd.R_base E0.out k_ h_.2.symm) (show w.heap.size ≤ w_a.heap.size from HBa.out.size) HBa.out HBa.out.size (by simp) ?_; (case hd => rfl); (case hg => rfl); (case hr => first | (go_simp; done) | (go_simp; rfl)); intro v11_ w_b ho_ hb_ hg_ hn_; clear hg_ hn_; have OU0 := Aside0.mk ho_; have HB0 := Aside0.mk hb_; clear ho_ hb_ E0 HBa))
  go_wp2
  go_loopg [3, 14] l.length (fun n v3 v14 w' => ∃ (i : Nat) (OUT : List (List Int)), v14 = .int .i64 (i : Int) ∧ Aside0 (i + n = l.length) ∧ Aside0 ((l.drop i).foldl stepB OUT = r) ∧ Aside0 ((∀ x ∈ OUT, x.length = i) ∧ 0 < OUT.length ∧ OUT.length * 9 ^ n ≤ 729) ∧ Aside0 (Kd.S (Kd.slice 3 (Kd.int .i64)) 46 w' w.heap.size (fun k_ => w.heap.size ≤ k_) v3 OUT) ∧ Aside0 (Below w.heap.size w w'))
  case atStart => exact ⟨0, [[]], rfl, ⟨by omega⟩, HR_2, ⟨⟨by simp, by simp, HP9.out⟩⟩, OU0, HB0⟩
  case round =>
    clear HB0 OU0
    obtain ⟨i, OUT, rfl, HI, HF, HX, OU0, HB⟩ := hrel
    by_cases hlt : i < l.length
    · have d1 : decide ((i : Int) < (l.length : Int)) = true := decide_eq_true (by omega)
      have d1n : decide (i < l.length) = true := decide_eq_true hlt
      obtain ⟨ko, rfl⟩ : ∃ ko, gk = ko + 1 := ⟨gk - 1, by have := HI.out; omega⟩
      have hn := HLG.out.2.2 l[i] (List.getElem_mem hlt)
      obtain ⟨nn, hnn⟩ : ∃ n : Nat, l[i] = (n : Int) := ⟨l[i].toNat, by omega⟩
      obtain ⟨adx, eax, ix_⟩ := Kd.at_int (Kd.C_below HA.out HB.out) (i : Int) (by omega) (by omega)
      cases eax
      rw [rdB l hlt, hnn, Int.toNat_natCast] at ix_
      have HN8 : Aside0 (nn ≤ 8) := ⟨by omega⟩
      have HD : Aside0 (l.drop i = (nn : Int) :: l.drop (i + 1)) := ⟨by rw [← List.getElem_cons_drop hlt, hnn]⟩
      have w2 : IntKind.i64.wrap ((i : Int) + 1) = ((i + 1 : Nat) : Int) := by rw [Hw.wrap_w (by omega) (by have := HLG.out.2.1; omega)]; omega
      have wn : IntKind.i64.wrap ((nn : Int) + 1) = (nn : Int) + 1 := Hw.wrap_w (by omega) (by omega)
      have pi : (0 : Int) ≤ (i : Int) := by omega
      have qi : (i : Int) < (l.length : Int) := by omega
      replace pi := eq_true pi
      replace qi := eq_true qi
      obtain ⟨gO, cO, rfl, _, _, _⟩ := Kd.S_form OU0.out HX.out.2.1
      obtain ⟨B, hB⟩ : ∃ B, B = wr.heap.size := ⟨_, rfl⟩
      have ORD : Aside0 (w.heap.size ≤ B) := ⟨by rw [hB]; exact HB.out.size⟩
      have OU : Aside0 (Kd.S (Kd.slice 3 (Kd.int .i64)) 46 wr w.heap.size (fun k_ => w.heap.size ≤ k_ ∧ k_ < B) (.slice (some ⟨gO, 0, none⟩) OUT.length cO) OUT) := ⟨Kd.S_mono (Kd.S_bound OU0.out) (fun k_ hk_ => ⟨hk_.1, by have h_ := hk_.2.2.1; omega⟩)⟩
      have HBq := Aside0.mk hB
      have HLT := Aside0.mk hlt
      have HOL : Aside0 (OUT.length ≤ 729 ∧ i < 3) := ⟨by
        have h1 : 1 ≤ 9 ^ (ko + 1) := Nat.one_le_pow _ _ (by omega)
        have h2 := Nat.le_mul_of_pos_right OUT.length h1
        have := HX.out.2.2
        have := HLG.out.2.1
        omega⟩
      have NX0 : Aside0 (Kd.S (Kd.slice 3 (Kd.int .i64)) 46 (wr.alloc (.cells #[] 46)) w.heap.size (fun k_ => B ≤ k_) (.slice (some ⟨wr.heap.size, 0, none⟩) 0 0) []) := ⟨⟨fun _ => 0, Hw.R_empty (Kd.tag (fun _ => 0) (Kd.slice 3 (Kd.int .i64))) 46 wr w.heap.size (fun k_ => B ≤ k_) (by omega) (by omega)⟩⟩
      clear OU0 hlt hn hnn hB
      go_wp2
      clear ix_ d1 d1n pi qi
      go_loopg [6, 21] OUT.length (fun n v6 v21 w' => ∃ (p : Nat) (xs : List (List Int)), v21 = .int .i64 (p : Int) ∧ Aside0 (p + n = OUT.length) ∧ Aside0 (xs ++ stepB (OUT.drop p) (nn : Int) = stepB OUT (nn : Int)) ∧ Aside0 (Kd.S (Kd.slice 3 (Kd.int .i64)) 46 w' w.heap.size (fun k_ => B ≤ k_) v6 xs) ∧ Aside0 (Kd.S (Kd.slice 3 (Kd.int .i64)) 46 w' w.heap.size (fun k_ => w.heap.size ≤ k_ ∧ k_ < B) (.slice (some ⟨gO, 0, none⟩) OUT.length cO) OUT) ∧ Aside0 (Below w.heap.size w w') ∧ Aside0 (B ≤ w'.heap.size))
      case atStart => exact ⟨0, [], rfl, ⟨by omega⟩, ⟨by simp⟩, NX0, ⟨Kd.S_alloc OU.out _⟩, ⟨below_alloc HB.out _⟩, ⟨by rw [World.size_alloc]; have := HBq.out; omega⟩⟩
      case round =>
        clear NX0 OU HB HBq
        obtain ⟨p, xs, rfl, HP, HJ, NX, OU, HB, SZ⟩ := hrel
        by_cases hp : p < OUT.length
        · have c1 : decide ((p : Int) < (OUT.length : Int)) = true := decide_eq_true (by omega)
          have c1n : decide (p < OUT.length) = true := decide_eq_true hp
          obtain ⟨k1, rfl⟩ : ∃ k1, gk = k1 + 1 := ⟨gk - 1, by have := HP.out; omega⟩
          obtain ⟨ce, hce, hMe, hcc⟩ := Kd.S_get OU.out [] (p : Int) (by omega) (by omega)
          obtain ⟨v8, rfl, hr8⟩ := hMe
          obtain ⟨A8, c8, rfl⟩ := Kd.R_slice hr8
          have hgd : OUT.getD (p : Int).toNat [] = OUT[p] := by rw [Int.toNat_natCast, List.getD_eq_getElem?_getD, List.getElem?_eq_getElem hp]; rfl
          obtain ⟨row, hrow⟩ : ∃ row, row = OUT.getD (p : Int).toNat [] := ⟨_, rfl⟩
          rw [← hrow] at hr8 hcc
          have HRL : Aside0 (row.length + 1 ≤ 10) := ⟨by rw [hrow, hgd, HX.out.1 _ (List.getElem_mem hp)]; have := HOL.out; omega⟩
          have RW : Aside0 (Kd.R (Kd.int .i64) 3 wr w.heap.size (fun k_ => w.heap.size ≤ k_ ∧ k_ < B) (.slice A8 row.length c8) row) := ⟨Kd.R_mono hr8 (fun k_ hk_ => hk_.1)⟩
          have cp0 : wr.cell? (Addr.add ⟨gO, 0, none⟩ p) = some (.slice A8 row.length c8) := by
            have h_ := hcc 0 _ rfl
            rw [show (Kd.slice 3 (Kd.int .i64)).sz = 1 from rfl, Int.toNat_natCast, Nat.mul_one, Nat.add_zero] at h_
            exact h_
          rw [Hw.add_off] at cp0
          have hadd := Hw.add_off gO p
          have HJ2 : Aside0 ((xs ++ (List.range' 0 (nn + 1)).map fun q : Nat => row ++ [(q : Int)]) ++ stepB (OUT.drop (p + 1)) (nn : Int) = stepB OUT (nn : Int)) := ⟨by
            have h_ := HJ.out
            rw [(List.getElem_cons_drop hp).symm, ← hgd, ← hrow, show (row :: OUT.drop (p + 1)) = [row] ++ OUT.drop (p + 1) from rfl, stepB_app, rowB _ _ (by omega), Int.toNat_natCast, List.range_eq_range', ← List.append_assoc] at h_
            exact h_⟩
          have pp : (0 : Int) ≤ (p : Int) := by omega
          have qp : (p : Int) < (OUT.length : Int) := by omega
          have wp1 : IntKind.i64.wrap ((p : Int) + 1) = ((p + 1 : Nat) : Int) := by rw [Hw.wrap_w (by omega) (by have := HOL.out; omega)]; omega
          have HPL := Aside0.mk hp
          replace pp := eq_true pp
          replace qp := eq_true qp
          clear hce hcc hr8 hrow hgd hp HJ
          go_wp2
          clear cp0
          go_loopg [6, 27] (nn + 1) (fun n v6 v27 w' => ∃ (j : Nat) (xs : List (List Int)), v27 = .int .i64 (j : Int) ∧ Aside0 (j + n = nn + 1) ∧ Aside0 ((xs ++ (List.range' j n).map fun q : Nat => row ++ [(q : Int)]) ++ stepB (OUT.drop (p + 1)) (nn : Int) = stepB OUT (nn : Int)) ∧ Aside0 (Kd.S (Kd.slice 3 (Kd.int .i64)) 46 w' w.heap.size (fun k_ => B ≤ k_) v6 xs) ∧ Aside0 (Kd.S (Kd.slice 3 (Kd.int .i64)) 46 w' w.heap.size (fun k_ => w.heap.size ≤ k_ ∧ k_ < B) (.slice (some ⟨gO, 0, none⟩) OUT.length cO) OUT) ∧ Aside0 (Kd.R (Kd.int .i64) 3 w' w.heap.size (fun k_ => w.heap.size ≤ k_ ∧ k_ < B) (.slice A8 row.length c8) row) ∧ Aside0 (Below w.heap.size w w') ∧ Aside0 (B ≤ w'.heap.size))
          case atStart => exact ⟨0, xs, rfl, ⟨by omega⟩, HJ2, NX, OU, RW, HB, SZ⟩
          case round =>
            clear HJ2 NX OU RW HB SZ
            obtain ⟨j, xs, rfl, HI2, HJ2, NX', OU, RW, HB, SZ⟩ := hrel
            by_cases hj : j < nn + 1
            · have d2 : decide ((j : Int) < (nn : Int) + 1) = true := decide_eq_true (by omega)
              obtain ⟨k2, rfl⟩ : ∃ k2, gk = k2 + 1 := ⟨gk - 1, by have := HI2.out; omega⟩
              have wj : IntKind.i64.wrap ((j : Int) + 1) = ((j + 1 : Nat) : Int) := by rw [Hw.wrap_w (by omega) (by have := HN8.out; omega)]; omega
              obtain ⟨C0, hC0⟩ : ∃ C0, C0 = wr.heap.size := ⟨_, rfl⟩
              have HC0 := Aside0.mk hC0
              have HCB : Aside0 (B ≤ C0) := ⟨by rw [hC0]; exact SZ.out⟩
              have NX : Aside0 (Kd.S (Kd.slice 3 (Kd.int .i64)) 46 wr w.heap.size (fun k_ => B ≤ k_ ∧ k_ < C0) u6 xs) := ⟨Kd.S_mono (Kd.S_bound NX'.out) (fun k_ hk_ => ⟨hk_.1, by have h_ := hk_.2.2.1; omega⟩)⟩
              have HCL : Aside0 (slices_Clone_int_int.f row = some row) := ⟨by unfold slices_Clone_int_int.f; rw [if_pos (by have := HRL.out; omega)]⟩
              obtain ⟨row2, hrow2⟩ : ∃ row2 : List Int, row2 = row ++ [(j : Int)] := ⟨_, rfl⟩
              have Nrow2 := Aside0.mk hrow2
              obtain ⟨zs, hzs⟩ : ∃ zs : List (List Int), zs = xs ++ [row2] := ⟨_, rfl⟩
              have Nzs := Aside0.mk hzs
              have HJ3 : Aside0 ((zs ++ (List.range' (j + 1) k2).map fun q : Nat => row ++ [(q : Int)]) ++ stepB (OUT.drop (p + 1)) (nn : Int) = stepB OUT (nn : Int)) := ⟨by
                have h_ := HJ2.out
                rw [List.range'_succ, List.map_cons, ← hrow2] at h_
                rw [← h_, hzs]
                simp⟩
              have HXN : Aside0 (xs.length + 1 ≤ 100000) := ⟨by
                have h_ := congrArg List.length HJ2.out
                have h2_ := stepB_len (out := OUT) (n := (nn : Int)) (by have := HN8.out; omega)
                have h3_ := HOL.out.1
                simp at h_
                omega⟩
              have HI3 : Aside0 (j + 1 + k2 = nn + 1) := ⟨by have := HI2.out; omega⟩
              clear NX' hC0 hrow2 hzs HJ2 hj HI2
              go_wp2_with (first | ((with_reducible refine gate_callee (f := 128) rfl ?_); refine goesL_ (some 32) rfl rfl Try.func128 (by kernel_rfl) rfl #[.slice A8 row.length c8] rfl (by (try simp only [List.map_toArray, List.map_cons, List.map_nil]); first | done | rfl) ?_; refine (slices_Clone_int_int.calls A8 c8 row row _ (Kd.R_reads' RW.out).2.2 (Kd.R_reads' RW.out).2.1 HCL.out).mono ?_; rintro e_ w_1 ⟨vc_, rfl, hr_, hb_⟩; refine ⟨_, rfl, ?_⟩; have n0_ : Aside0 (Below w.heap.size w w_1) := ⟨Hx.bb_below hb_ (by first | exact HB.out | exact below_drew1 HB.out | exact pw_below_drewN HB.out _)⟩; have n1_ : Aside0 (B ≤ w_1.heap.size) := ⟨Nat.le_trans SZ.out hb_.size⟩; have n2_ : Aside0 (Kd.S (Kd.slice 3 (Kd.int .i64)) 46 w_1 w.heap.size (fun k_ => w.heap.size ≤ k_ ∧ k_ < B) (.slice (some ⟨gO, 0, none⟩) OUT.length cO) OUT) := ⟨Kd.S_below OU.out hb_⟩; have n3_ : Aside0 (Kd.R (Kd.int .i64) 3 w_1 w.heap.size (fun k_ => w.heap.size ≤ k_ ∧ k_ < B) (.slice A8 row.length c8) row) := ⟨Kd.R_below RW.out hb_⟩; have n4_ : Aside0 (Kd.S (Kd.slice 3 (Kd.int .i64)) 46 w_1 w.heap.size (fun k_ => B ≤ k_ ∧ k_ < C0) u6 xs) := ⟨Kd.S_below NX.out hb_⟩; have m0_ : Aside0 (Kd.R (Kd.int .i64) 3 w_1 B (fun k_ => C0 ≤ k_) vc_ row) := ⟨Kd.R_mono (Kd.R_lower (Kd.R_bound hr_) (show B ≤ wr.heap.size from SZ.out)) (fun k_ hk_ => by have h_ := hk_.2.1; rw [HC0.out]; exact h_)⟩; have m1_ : Aside0 (C0 ≤ w_1.heap.size) := ⟨by rw [HC0.out]; exact hb_.size⟩; (try clear HB); (try clear SZ); (try clear OU); (try clear RW); (try clear NX); have HB := n0_; have SZ := n1_; have OU := n2_; have RW := n3_; have NX := n4_; have HL := m0_; have ZC := m1_; clear n0_ n1_ n2_ n3_ n4_ m0_ m1_; clear hr_ hb_) | ((with_reducible refine gate_builtin (b := .append) (xs := #[.tmp 32, .tmp 34]) rfl ?_); at_builtin; refine Kd.R_append (Kd.int .i64) (w0 := w_1) B rfl (.tmp 32) (.tmp 34) 46 3 (.int .i64 0) 8 rfl Try.underlying46 info3 rfl (by decide) (by omega) vc_ row (j : Int) [.int .i64 (j : Int)] (fun k_ => C0 ≤ k_) (fun _ => False) rfl rfl ?aP (fun _ hk_ => hk_.elim) ?aF ?aO (Below.refl _ _) ?aS ?aL ?_; (case aP => exact (show Kd.M (Kd.int .i64) _ _ _ (j : Int) [.int .i64 (j : Int)] from rfl)); (case aF => exact (fun k_ hk_ => by show C0 ≤ k_; have := ZC.out; omega)); (case aO => exact HL.out); (case aS => exact SZ.out); (case aL => have := HRL.out; omega); intro v_ w_2 ho_ hb_ hg_ hat_; rw [← Nrow2.out] at ho_; have n0_ : Aside0 (Below w.heap.size w w_2) := ⟨Hx.bb_append HB.out hg_ (fun k_ h_ => by have h2_ : C0 ≤ k_ := HL.out.1 _ h_; have := ORD.out; have := HCB.out; omega)⟩; have n1_ : Aside0 (B ≤ w_2.heap.size) := ⟨Nat.le_trans SZ.out hg_.size⟩; have n2_ : Aside0 (Kd.S (Kd.slice 3 (Kd.int .i64)) 46 w_2 w.heap.size (fun k_ => w.heap.size ≤ k_ ∧ k_ < B) (.slice (some ⟨gO, 0, none⟩) OUT.length cO) OUT) := ⟨Kd.S_grown OU.out hg_ (fun k_ hk_ h_ => by have h2_ : C0 ≤ k_ := HL.out.1 _ h_.symm; have h3_ := hk_.2; have := HCB.out; omega)⟩; have n3_ : Aside0 (Kd.R (Kd.int .i64) 3 w_2 w.heap.size (fun k_ => w.heap.size ≤ k_ ∧ k_ < B) (.slice A8 row.length c8) row) := ⟨Kd.R_grown RW.out hg_ (fun k_ hk_ h_ => by have h2_ : C0 ≤ k_ := HL.out.1 _ h_.symm; have h3_ := hk_.2; have := HCB.out; omega)⟩; have n4_ : Aside0 (Kd.S (Kd.slice 3 (Kd.int .i64)) 46 w_2 w.heap.size (fun k_ => B ≤ k_ ∧ k_ < C0) u6 xs) := ⟨Kd.S_grown NX.out hg_ (fun k_ hk_ h_ => by have h2_ : C0 ≤ k_ := HL.out.1 _ h_.symm; have h3_ := hk_.2; have := HCB.out; omega)⟩; have n5_ : Aside0 (C0 ≤ w_2.heap.size) := ⟨Nat.le_trans ZC.out hg_.size⟩; have m0_ : Aside0 (Kd.R (Kd.int .i64) 3 w_2 B (fun k_ => C0 ≤ k_) v_ row2) := ⟨ho_⟩; (try clear HB); (try clear SZ); (try clear OU); (try clear RW); (try clear NX); (try clear ZC); clear HL; have HB := n0_; have SZ := n1_; have OU := n2_; have RW := n3_; have NX := n4_; have ZC := n5_; have HL := m0_; clear n0_ n1_ n2_ n3_ n4_ n5_ m0_ ho_ hb_ hg_ hat_; obtain ⟨Ar_, cr_, er_⟩ := Kd.R_slice HL.out; subst er_) | ((with_reducible refine gate_builtin (b := .append) (xs := #[.tmp 30, .tmp 36]) rfl ?_); at_builtin; refine Kd.S_append (Kd.slice 3 (Kd.int .i64)) (w0 := w_2) w.heap.size rfl (.tmp 30) (.tmp 36) 30 46 (.slice none 0 0) 24 rfl Try.underlying30 info46 rfl (by decide) (by omega) u6 xs row2 [(.slice Ar_ row2.length cr_)] (fun k_ => B ≤ k_) (fun k_ => some k_ = ((.slice Ar_ row2.length cr_) : Value).ownBlock) rfl rfl ?aP (fun k_ hk_ => ⟨by have h2_ : C0 ≤ k_ := HL.out.1 _ hk_.symm; show B ≤ k_; have := HCB.out; omega, fun h_ => by have h2_ : C0 ≤ k_ := HL.out.1 _ hk_.symm; have h3_ := (Kd.S_R NX.out).1 _ h_.symm; omega⟩) ?aF ?aO (Below.refl _ _) ?aS ?aL ?_; (case aP => exact Kd.M_row (Kd.R_lower (Kd.R_tight rfl HL.out) (by have := ORD.out; omega))); (case aF => exact (fun k_ hk_ => by show B ≤ k_; have := SZ.out; omega)); (case aO => exact Kd.S_mono NX.out (fun k_ hk_ => ⟨hk_.1, fun e_ => by have h2_ : C0 ≤ k_ := HL.out.1 _ e_.symm; have h3_ := hk_.2; omega⟩)); (case aS => exact HB.out.size); (case aL => have := HXN.out; omega); intro v_ w_3 ho_ hb_ hg_ hat_; rw [← Nzs.out] at ho_; have n0_ : Aside0 (Below w.heap.size w w_3) := ⟨Hx.bb_append HB.out hg_ (fun k_ h_ => by have h2_ := ((Kd.S_R NX.out).1 _ h_); have := ORD.out; omega)⟩; have n1_ : Aside0 (B ≤ w_3.heap.size) := ⟨Nat.le_trans SZ.out hg_.size⟩; have n2_ : Aside0 (Kd.S (Kd.slice 3 (Kd.int .i64)) 46 w_3 w.heap.size (fun k_ => w.heap.size ≤ k_ ∧ k_ < B) (.slice (some ⟨gO, 0, none⟩) OUT.length cO) OUT) := ⟨Kd.S_grown OU.out hg_ (fun k_ hk_ h_ => by have h2_ := ((Kd.S_R NX.out).1 _ h_.symm); have h3_ := hk_.2; omega)⟩; have n3_ : Aside0 (Kd.R (Kd.int .i64) 3 w_3 w.heap.size (fun k_ => w.heap.size ≤ k_ ∧ k_ < B) (.slice A8 row.length c8) row) := ⟨Kd.R_grown RW.out hg_ (fun k_ hk_ h_ => by have h2_ := ((Kd.S_R NX.out).1 _ h_.symm); have h3_ := hk_.2; omega)⟩; have n4_ : Aside0 (C0 ≤ w_3.heap.size) := ⟨Nat.le_trans ZC.out hg_.size⟩; have m0_ : Aside0 (Kd.S (Kd.slice 3 (Kd.int .i64)) 46 w_3 w.heap.size (fun k_ => B ≤ k_) v_ zs) := ⟨ho_⟩; (try clear HB); (try clear SZ); (try clear OU); (try clear RW); (try clear ZC); clear HL NX; have HB := n0_; have SZ := n1_; have OU := n2_; have RW := n3_; have ZC := n4_; have NX := m0_; clear n0_ n1_ n2_ n3_ n4_ m0_ ho_ hb_ hg_ hat_))
              go_roundg k2
              case measure => omega
              case rel => exact ⟨j + 1, zs, rfl, HI3, HJ3, NX, OU, RW, HB, SZ⟩
            · have d2 : decide ((j : Int) < (nn : Int) + 1) = false := decide_eq_false (by omega)
              have hgk : gk = 0 := by have := HI2.out; omega
              have HJ3 : Aside0 (xs ++ stepB (OUT.drop (p + 1)) (nn : Int) = stepB OUT (nn : Int)) := ⟨by
                have h_ := HJ2.out
                rw [hgk] at h_
                simpa using h_⟩
              clear hgk hj HI2 HJ2
              go_wp2
              go_roundg k1
              case measure => omega
              case rel => exact ⟨p + 1, xs, rfl, ⟨by have := HP.out; omega⟩, HJ3, NX', OU, HB, SZ⟩
        · have c1 : decide ((p : Int) < (OUT.length : Int)) = false := decide_eq_false (by omega)
          have c1n : decide (p < OUT.length) = false := decide_eq_false hp
          have hxs : xs = stepB OUT (nn : Int) := by
            have h_ := HJ.out
            rw [List.drop_of_length_le (by omega)] at h_
            simpa [stepB] using h_
          have HF2 : Aside0 ((l.drop (i + 1)).foldl stepB xs = r) := ⟨by
            have h_ := HF.out
            rw [HD.out, List.foldl_cons] at h_
            rw [hxs]
            exact h_⟩
          have HX2 : Aside0 ((∀ x ∈ xs, x.length = i + 1) ∧ 0 < xs.length ∧ xs.length * 9 ^ ko ≤ 729) := ⟨by
            have h2 := stepB_len (out := OUT) (n := (nn : Int)) (by have := HN8.out; omega)
            have h3 := HX.out.2.2
            rw [Nat.pow_succ, Nat.mul_comm (9 ^ ko) 9, ← Nat.mul_assoc] at h3
            refine ⟨by rw [hxs]; exact stepB_mem HX.out.1, ?_, by rw [hxs]; exact Nat.le_trans (Nat.mul_le_mul_right _ h2) h3⟩
            rw [hxs]
            have h4 := HX.out.2.1
            cases hO : OUT with
            | nil => rw [hO] at h4; simp at h4
            | cons b bs =>
              rw [show b :: bs = [b] ++ bs from rfl, stepB_app, rowB _ _ (by omega)]
              simp
              omega⟩
          clear hp HJ hxs
          go_wp2
          go_roundg ko
          case measure => omega
          case rel => exact ⟨i + 1, xs, rfl, ⟨by have := HI.out; omega⟩, HF2, HX2, ⟨Kd.S_mono NX.out (fun k_ hk_ => by have := ORD.out; omega)⟩, HB⟩
    · have d1 : decide ((i : Int) < (l.length : Int)) = false := decide_eq_false (by omega)
      have d1n : decide (i < l.length) = false := decide_eq_false hlt
      have hr : OUT = r := by
        have h_ := HF.out
        rw [List.drop_of_length_le (by omega)] at h_
        exact h_
      subst hr
      clear hlt
      go_wp2
      go_ret
      exact ⟨_, rfl, Kd.S_mono OU0.out (fun _ _ => trivial), HB.out⟩


-- FOR impl.HardestHouses
-- KIND rounds=0 making=1
-- CALLS impl.isStocked ; impl.allBreaks ; impl.villageOf ; (impl.houser).play ; spec.hoDrops
-- USES kd [][]int
-- USES info []int
def hScan (cnt : List Int → Int) : List (List Int) → List (List Int) → Int → List (List Int)
  | [], out, _ => out
  | p :: ps, out, m => if cnt p > m then hScan cnt ps [p] (cnt p) else if cnt p = m then hScan cnt ps (out ++ [p]) m else hScan cnt ps out m
theorem hScan_start (cnt : List Int → Int) (h : ∀ p, 0 ≤ cnt p) (l : List (List Int)) (m : Int) (h1 : -1 ≤ m) (h2 : m ≤ 0) : hScan cnt l [] 0 = hScan cnt l [] m := by
  rcases (by omega : m = 0 ∨ m = -1) with rfl | rfl
  · rfl
  · cases l with
    | nil => rfl
    | cons p ps =>
      have hp := h p
      rw [hScan, hScan]
      by_cases h3 : cnt p > 0
      · rw [if_pos h3, if_pos (by omega)]
      · have h4 : cnt p = 0 := by omega
        rw [if_neg h3, if_pos h4, if_pos (by omega), h4]
        rfl
def hardH (e : Int) (l : List Int) : List (List Int) × Bool := if hAsk e l then (hScan (fun p => ((hPlay p (vOf e l).ms (vOf e l) (fun _ => 0)).length : Int)) (allB l) [] 0, true) else ([], false)
def impl_HardestHouses.f (a0 : Int) (l1 : List Int) : Option (List (List Int) × Bool) := some (hardH a0 l1)
def spec_HardestHouses.f (a0 : Int) (l1 : List Int) : Option (List (List Int) × Bool) := some (hardH a0 l1)
theorem start_len {e : Int} {l bs : List Int} (h1 : hAsk e l = true) (hl : bs.length = l.length) : PGood bs.length (vOf e l) (fun _ => 0) := by
  have hg := hAsk_good h1
  refine ⟨vOf_good hg.1 hg.2.1, hg.2.2, fun h hh => ?_, fun h hh hm => ?_⟩
  · have := lget_bd hg.1 h
    show 0 ≤ (0 : Int) ∧ (0 : Int) + (vOf e l).get h ≤ 8
    rw [vOf_get e l hh]
    omega
  · rw [vOf_get e l hh, List.getD_eq_getElem?_getD, List.getElem?_eq_none (by omega)]
    rfl
theorem lst_of_M {f : Nat → Nat} {W : World} {N0 mb gp n c i : Nat} {ok : Nat → Prop} {y : List Int} (h : (Kd.tag f (Kd.slice 3 (Kd.int .i64))).M W N0 ok (y, i) [.slice (some ⟨gp, 0, none⟩) n c]) (hne : gp ≠ mb) : Lst W mb (some ⟨gp, 0, none⟩) y := by
  obtain ⟨v, e, hR⟩ := h
  injection e with e1 _
  subst e1
  exact ⟨(Kd.R_reads' hR).2.2, fun ad ha => by injection ha with ha; subst ha; exact hne⟩
set_option maxHeartbeats 8000000 in
set_option maxRecDepth 100000 in
theorem impl_HardestHouses.calls (a0 : Int) (A1 : Option Addr) (c1 : Nat) (l1 : List Int) (r1 : List (List Int)) (r2 : Bool) (w : World) (hr1 : Kd.C (Kd.int .i64) w A1 l1.length l1) (hc1 : l1.length ≤ c1) (h : impl_HardestHouses.f a0 l1 = some (r1, r2)) :
    Calls Try.prog 53 #[.int .i64 a0, .slice A1 l1.length c1] w fun e w' => ∃ v0_ : Value, e = .returned (.tuple #[v0_, .bool r2]) ∧ Kd.S (Kd.slice 3 (Kd.int .i64)) 46 w' w.heap.size (fun _ => True) v0_ r1 ∧ Below w.heap.size w w' := by
  have hmk : ∀ w : World, (Instr.makeMap 97 none).run Try.prog w = .ok (.map (some w.heap.size)) (w.alloc (.map #[] 0)) := fun _ => rfl
  have HB := Aside0.mk (Below.refl w.heap.size w)
  have HC1 := Aside0.mk hr1
  have HL1 := Aside0.mk hc1
  obtain ⟨b1, hb1⟩ : ∃ b, b = hAsk a0 l1 := ⟨_, rfl⟩
  have e1 := stocked_is a0 l1
  unfold impl_HardestHouses.f hardH at h
  rw [← hb1] at e1 h
  have HC := Aside0.mk e1
  have HAG := Aside0.mk hb1
  clear e1 hb1 hr1 hc1
  cases b1 with
  | false =>
    simp only [Bool.false_eq_true, if_false, Option.some.injEq, Prod.mk.injEq] at h
    obtain ⟨rfl, rfl⟩ := h
    clear hmk
    go_enter Try.func53, Try.ntmps53
    go_wp2_with (first | ((with_reducible refine gate_callee (f := 85) rfl ?_); refine goesL_ (some 14) rfl rfl Try.func85 (by kernel_rfl) rfl #[.int .i64 a0, .slice A1 l1.length c1] rfl (by (try simp only [List.map_toArray, List.map_cons, List.map_nil]); first | done | rfl) ?_; refine (impl_isStocked.calls 9 a0 A1 c1 l1 _ _ HC1.out HL1.out HC.out).mono ?_; rintro e_ w_1 ⟨rfl, hd_⟩; refine ⟨_, rfl, ?_⟩; have hb_ : Below _ _ w_1 := (by first | exact hd_ | exact hd_.below); clear hd_; have n0_ : Aside0 (Below w.heap.size w w_1) := ⟨Hx.bb_below hb_ (by first | exact HB.out | exact below_drew1 HB.out | exact pw_below_drewN HB.out _)⟩; (try clear HB); have HB := n0_; clear n0_; clear hb_))
    go_ret2
    exact ⟨_, rfl, Kd.S_nil _ _ _ _ _, HB.out⟩
  | true =>
    simp only [if_true, Option.some.injEq, Prod.mk.injEq] at h
    obtain ⟨h1, rfl⟩ := h
    have HG0 := Aside0.mk (hAsk_good HAG.out.symm)
    have hpn := allB_len HG0.out.1
    have hpm := allB_mem (l := l1)
    obtain ⟨PL, hPL⟩ : ∃ PL, PL = allB l1 := ⟨_, rfl⟩
    rw [← hPL] at h1 hpn hpm
    have HPL := Aside0.mk hPL
    have HPN := Aside0.mk hpn
    have HPM := Aside0.mk hpm
    obtain ⟨cnt, hcnt⟩ : ∃ cnt : List Int → Int, cnt = fun p => ((hPlay p (vOf a0 l1).ms (vOf a0 l1) (fun _ => 0)).length : Int) := ⟨_, rfl⟩
    rw [← hcnt] at h1
    have HCN := Aside0.mk hcnt
    rw [hScan_start cnt (fun p => by rw [hcnt]; exact Int.natCast_nonneg _) PL (-1) (by omega) (by omega)] at h1
    have H1 := Aside0.mk h1
    clear h1 hcnt hPL hpn hpm
    go_enter Try.func53, Try.ntmps53
    go_upto_region 3 with (first | ((with_reducible refine gate_callee (f := 85) rfl ?_); refine goesL_ (some 14) rfl rfl Try.func85 (by kernel_rfl) rfl #[.int .i64 a0, .slice A1 l1.length c1] rfl (by (try simp only [List.map_toArray, List.map_cons, List.map_nil]); first | done | rfl) ?_; refine (impl_isStocked.calls 9 a0 A1 c1 l1 _ _ HC1.out HL1.out HC.out).mono ?_; rintro e_ w_1 ⟨rfl, hd_⟩; refine ⟨_, rfl, ?_⟩; have hb_ : Below _ _ w_1 := (by first | exact hd_ | exact hd_.below); clear hd_; have n0_ : Aside0 (Below w.heap.size w w_1) := ⟨Hx.bb_below hb_ (by first | exact HB.out | exact below_drew1 HB.out | exact pw_below_drewN HB.out _)⟩; (try clear HB); have HB := n0_; clear n0_; clear hb_) | (go_at_call 94; refine (allB_of l1 HG0.out.1 PL HPL.out A1 c1 HL1.out _ (Kd.C_below HC1.out (below_alloc (below_alloc HB.out _) _))).mono ?_; rintro e_ w_3 ⟨v_, rfl, hs_, hb_⟩; obtain ⟨A_, cP, rfl⟩ := Kd.S_slice hs_; have Z1 := Aside0.mk (show w.heap.size ≤ w_1.heap.size from HB.out.size); have HS := Aside0.mk (Hm.Mem.below (Hm.Mem.alloc (hou_made w_1) (.cells #[] 46)) hb_); have HB2 := Aside0.mk (Hx.bb_below hb_ (below_alloc (below_alloc HB.out (.map #[] 0)) (.cells #[] 46))); have HWP := Aside0.mk hb_; have ZB := Aside0.mk hb_.size; have HP0 := Aside0.mk hs_; clear HB hs_ hb_; have HB := HB2; clear HB2))
    go_wp2_with (first | ((with_reducible refine gate_callee (f := 85) rfl ?_); refine goesL_ (some 14) rfl rfl Try.func85 (by kernel_rfl) rfl #[.int .i64 a0, .slice A1 l1.length c1] rfl (by (try simp only [List.map_toArray, List.map_cons, List.map_nil]); first | done | rfl) ?_; refine (impl_isStocked.calls 9 a0 A1 c1 l1 _ _ HC1.out HL1.out HC.out).mono ?_; rintro e_ w_1 ⟨rfl, hd_⟩; refine ⟨_, rfl, ?_⟩; have hb_ : Below _ _ w_1 := (by first | exact hd_ | exact hd_.below); clear hd_; have n0_ : Aside0 (Below w.heap.size w w_1) := ⟨Hx.bb_below hb_ (by first | exact HB.out | exact below_drew1 HB.out | exact pw_below_drewN HB.out _)⟩; (try clear HB); have HB := n0_; clear n0_; clear hb_) | (go_at_call 94; refine (allB_of l1 HG0.out.1 PL HPL.out A1 c1 HL1.out _ (Kd.C_below HC1.out (below_alloc (below_alloc HB.out _) _))).mono ?_; rintro e_ w_3 ⟨v_, rfl, hs_, hb_⟩; obtain ⟨A_, cP, rfl⟩ := Kd.S_slice hs_; have Z1 := Aside0.mk (show w.heap.size ≤ w_1.heap.size from HB.out.size); have HS := Aside0.mk (Hm.Mem.below (Hm.Mem.alloc (hou_made w_1) (.cells #[] 46)) hb_); have HB2 := Aside0.mk (Hx.bb_below hb_ (below_alloc (below_alloc HB.out (.map #[] 0)) (.cells #[] 46))); have HWP := Aside0.mk hb_; have ZB := Aside0.mk hb_.size; have HP0 := Aside0.mk hs_; clear HB hs_ hb_; have HB := HB2; clear HB2))
    obtain ⟨f_, hf_⟩ := HP0.out
    obtain ⟨NB, hNB⟩ : ∃ m, m = w_1.heap.size + 1 := ⟨_, rfl⟩
    obtain ⟨N1, hN1⟩ : ∃ m, m = w_3.heap.size := ⟨_, rfl⟩
    obtain ⟨N0, hN0⟩ : ∃ m, m = w_1.heap.size + 2 := ⟨_, rfl⟩
    have hzz : N0 ≤ w_3.heap.size := by
      have h_ := ZB.out
      rw [World.size_alloc, World.size_alloc] at h_
      omega
    have ORD : Aside0 (w.heap.size ≤ w_1.heap.size ∧ w_1.heap.size < NB ∧ NB < N0 ∧ N0 ≤ N1) := ⟨by have h1_ := Z1.out; omega⟩
    have HP : Aside0 ((Kd.tag f_ (Kd.slice 3 (Kd.int .i64))).R 46 w_3 N0 (fun k_ => N0 ≤ k_ ∧ k_ < N1) (.slice A_ PL.length cP) PL.zipIdx) := ⟨by
      have h_ := Kd.R_mono (Kd.R_bound hf_) (ok' := fun k_ => N0 ≤ k_ ∧ k_ < N1) (fun k_ hk_ => ⟨by have h1_ := hk_.2.1; (try rw [World.size_alloc, World.size_alloc] at h1_); omega, by have h1_ := hk_.2.2.1; omega⟩)
      exact Kd.R_lower h_ (by (try rw [World.size_alloc, World.size_alloc]); omega)⟩
    have HS2 : Aside0 (Hou w_3 w_1.heap.size) := ⟨HS.out⟩
    clear HS HP0 hf_
    have SZ : Aside0 (N1 ≤ w_3.heap.size) := ⟨by omega⟩
    have h_pos : A_ = none → PL.length = 0 := fun h_ => by
      have h2_ := (Kd.R_reads' HP.out).2.2.2.2
      by_cases h3_ : PL.length = 0
      · exact h3_
      · obtain ⟨ad_, e_, _⟩ := h2_ (by rw [List.length_zipIdx]; omega)
        rw [h_] at e_
        cases e_
    have HA := Aside0.mk h_pos
    have HWB : Aside0 (w_1.heap.size + 1 = NB ∧ w_1.heap.size + 2 = N0) := ⟨by omega⟩
    clear Z1 ZB hzz hN1 h_pos hmk
    go_loopg [7, 8, 21] PL.length (fun n v7 v8 vi w' => ∃ (i : Nat) (m : Int) (L : List (List Int × Nat)), vi = .int .i64 i ∧ v8 = .int .i64 m ∧ Aside0 (i + n = PL.length ∧ -1 ≤ m) ∧ Aside0 (hScan cnt (PL.drop i) (L.map (·.1)) m = r1) ∧ Aside0 (L.length ≤ i ∧ (L.map (·.2)).Pairwise (· < ·) ∧ ∀ x ∈ L.map (·.2), x < i) ∧ Aside0 ((Kd.tag f_ (Kd.slice 3 (Kd.int .i64))).R 46 w' w.heap.size (fun k_ => NB ≤ k_) v7 L) ∧ Aside0 (∀ k_, v7.ownBlock = some k_ → NB ≤ k_ ∧ (k_ < N0 ∨ N1 ≤ k_)) ∧ Aside0 ((Kd.tag f_ (Kd.slice 3 (Kd.int .i64))).R 46 w' N0 (fun k_ => N0 ≤ k_ ∧ k_ < N1) (.slice A_ PL.length cP) PL.zipIdx) ∧ Aside0 (Hou w' w_1.heap.size) ∧ Aside0 (Below w.heap.size w w') ∧ Aside0 (N1 ≤ w'.heap.size))
    case atStart =>
      refine ⟨0, -1, [], rfl, rfl, ⟨by simp⟩, H1, ⟨by simp⟩, ⟨?_⟩, ⟨?_⟩, HP, HS2, HB, SZ⟩
      · have h_ := Hw.R_empty (Kd.tag f_ (Kd.slice 3 (Kd.int .i64))) 46 (w_1.alloc (.map #[] 0)) w.heap.size (fun k_ => NB ≤ k_) (by rw [World.size_alloc]; have := ORD.out; omega) (by rw [World.size_alloc]; have := HWB.out; omega)
        rw [World.size_alloc] at h_
        exact Kd.R_below h_ HWP.out
      · intro k_ h_
        have h2_ : w_1.heap.size + 1 = k_ := by simpa [Value.ownBlock] using h_
        have := HWB.out
        omega
    case round =>
      clear HP HS2 HB SZ H1
      obtain ⟨i, m, L, rfl, rfl, HI, HL, HLL, HO, OWN, HP, HS, HB, SZ⟩ := hrel
      by_cases hlt : i < PL.length
      · have p0 : (0 : Int) ≤ (i : Int) := by omega
        have q0 : (i : Int) < (PL.length : Int) := by omega
        obtain ⟨adP, rfl⟩ : ∃ ad, A_ = some ad := by
          cases A_ with
          | none => exact absurd (HA.out rfl) (by omega)
          | some ad => exact ⟨ad, rfl⟩
        obtain ⟨y, hx⟩ : ∃ y, PL[i] = y := ⟨_, rfl⟩
        have HYL : Aside0 (y.length = l1.length) := ⟨by rw [← hx]; exact HPM.out _ (List.getElem_mem hlt)⟩
        have HYP : Aside0 (0 < y.length) := ⟨by have := HYL.out; have := HG0.out.1.1; omega⟩
        have HPG : Aside0 (PGood y.length (vOf a0 l1) (fun _ => 0)) := ⟨start_len HAG.out.symm HYL.out⟩
        obtain ⟨c_, hc1, hM, hcc⟩ := Kd.R_getA HP.out (([], 0) : List Int × Nat) (i : Int) p0 q0
        have hz : PL.zipIdx.getD (i : Int).toNat ([], 0) = (y, i) := by
          rw [Int.toNat_natCast, List.getD_eq_getElem?_getD, List.getElem?_zipIdx, List.getElem?_eq_getElem hlt, hx]
          simp
        rw [hz] at hM
        obtain ⟨vp, rfl, hRv⟩ := hM
        obtain ⟨gp, cp, rfl, hgb, hgl, csp, hcs⟩ := Kd.R_form hRv HYP.out
        have HYC : Aside0 (y.length ≤ cp) := ⟨(Kd.R_reads' hRv).2.1⟩
        have QR : Aside0 ((Kd.tag f_ (Kd.slice 3 (Kd.int .i64))).M wr N0 (fun k_ => N0 ≤ k_ ∧ k_ < N1) ((y, i) : List Int × Nat) [.slice (some ⟨gp, 0, none⟩) y.length cp]) := ⟨⟨_, rfl, Kd.R_mono hRv (fun k_ hk_ => ⟨hk_.1.1, hk_.2⟩)⟩⟩
        have GPN : Aside0 (N0 ≤ gp) := ⟨hgb⟩
        have cp0 : wr.cell? (adP.add i) = some (.slice (some ⟨gp, 0, none⟩) y.length cp) := by
          have h_ := hcc 0 _ rfl
          rw [show (Kd.tag f_ (Kd.slice 3 (Kd.int .i64))).sz = 1 from rfl, Int.toNat_natCast, Nat.mul_one, Nat.add_zero] at h_
          exact h_
        obtain ⟨r5, hr5⟩ : ∃ r, r = hPlay y (vOf a0 l1).ms (vOf a0 l1) (fun _ => 0) := ⟨_, rfl⟩
        have HR5 := Aside0.mk hr5
        have HN : Aside0 (cnt y = (r5.length : Int)) := ⟨by rw [HCN.out, hr5]⟩
        have HL2 : Aside0 (hScan cnt (y :: PL.drop (i + 1)) (L.map (·.1)) m = r1) := ⟨by rw [← hx, ← List.drop_eq_getElem_cons hlt]; exact HL.out⟩
        obtain ⟨k1, rfl⟩ : ∃ k1, gk = k1 + 1 := ⟨gk - 1, by have := HI.out; omega⟩
        have dd0 : decide ((i : Int) < (PL.length : Int)) = true := decide_eq_true q0
        have dd0n : decide (i < PL.length) = true := decide_eq_true hlt
        have dd1 : decide (0 ≤ (i : Int)) = true := decide_eq_true p0
        have w2 : IntKind.i64.wrap ((i : Int) + 1) = ((i + 1 : Nat) : Int) := by rw [Hw.wrap_w (by omega) (by have := HPN.out; omega)]; omega
        have HLT := Aside0.mk hlt
        replace p0 := eq_true p0
        replace q0 := eq_true q0
        clear hlt hx hc1 hcc hz hRv hgb hgl hcs hr5 HL
        go_upto_region 8 with (first | ((with_reducible refine gate_callee (f := 87) rfl ?_); refine goesL_ (some 28) rfl rfl Try.func87 (by kernel_rfl) rfl #[.int .i64 a0, .slice A1 l1.length c1] rfl (by (try simp only [List.map_toArray, List.map_cons, List.map_nil]); first | done | rfl) ?_; refine (vill_of a0 ⟨HG0.out.1.1, HG0.out.1.2.1⟩ A1 c1 _ (Kd.C_below HC1.out HB.out)).mono ?_; rintro e_ w_4 ⟨rfl, hb_⟩; refine ⟨_, rfl, ?_⟩; have n0_ : Aside0 (Hou w_4 w_1.heap.size) := ⟨Hm.Mem.below (w := _) (by exact HS.out) hb_⟩; have n1_ : Aside0 (Below w.heap.size w w_4) := ⟨Hx.bb_below hb_ (by first | exact HB.out | exact below_drew1 HB.out | exact pw_below_drewN HB.out _)⟩; have n2_ : Aside0 ((Kd.tag f_ (Kd.slice 3 (Kd.int .i64))).R 46 w_4 N0 (fun k_ => N0 ≤ k_ ∧ k_ < N1) (.slice (some adP) PL.length cP) PL.zipIdx) := ⟨Kd.R_below HP.out hb_⟩; have n3_ : Aside0 (N1 ≤ w_4.heap.size) := ⟨Nat.le_trans SZ.out hb_.size⟩; have n4_ : Aside0 ((Kd.tag f_ (Kd.slice 3 (Kd.int .i64))).R 46 w_4 w.heap.size (fun k_ => NB ≤ k_) u7 L) := ⟨Kd.R_below HO.out hb_⟩; have n5_ : Aside0 ((Kd.tag f_ (Kd.slice 3 (Kd.int .i64))).M w_4 N0 (fun k_ => N0 ≤ k_ ∧ k_ < N1) ((y, i) : List Int × Nat) [.slice (some ⟨gp, 0, none⟩) y.length cp]) := ⟨Kd.M_below QR.out hb_⟩; (try clear HS); (try clear HB); (try clear HP); (try clear SZ); (try clear HO); (try clear QR); have HS := n0_; have HB := n1_; have HP := n2_; have SZ := n3_; have HO := n4_; have QR := n5_; clear n0_ n1_ n2_ n3_ n4_ n5_; clear hb_) | ((with_reducible refine gate_callee (f := 91) rfl ?_); refine goesL_ (some 30) rfl rfl Try.func91 (by kernel_rfl) rfl #[.map (some w_1.heap.size), vCells (vOf a0 l1), .slice (some ⟨gp, 0, none⟩) y.length cp] rfl (by (try simp only [List.map_toArray, List.map_cons, List.map_nil]); first | done | rfl) ?_; refine (hplay_of w_1.heap.size (vOf a0 l1) y HPG.out HYP.out (some ⟨gp, 0, none⟩) cp HYC.out r5 HR5.out w_4 (lst_of_M QR.out (by have := ORD.out; have := GPN.out; omega)) HS.out).mono ?_; rintro e_ w_5 ⟨v_, rfl, hr_, hs_, hg_⟩; refine ⟨_, rfl, ?_⟩; obtain ⟨A5, c5, rfl⟩ := Kd.R_slice hr_; have n0_ : Aside0 (Hou w_5 w_1.heap.size) := ⟨hs_⟩; have n1_ : Aside0 (Below w.heap.size w w_5) := ⟨Hx.bb_grown (by first | exact HB.out | exact below_drew1 HB.out | exact pw_below_drewN HB.out _) hg_ (by have := ORD.out; omega)⟩; have n2_ : Aside0 ((Kd.tag f_ (Kd.slice 3 (Kd.int .i64))).R 46 w_5 N0 (fun k_ => N0 ≤ k_ ∧ k_ < N1) (.slice (some adP) PL.length cP) PL.zipIdx) := ⟨Kd.R_grown (row := some w_1.heap.size) HP.out hg_ (fun k_ hk_ h_ => by have := Option.some.inj h_; have := hk_.1; have := ORD.out; omega)⟩; have n3_ : Aside0 (N1 ≤ w_5.heap.size) := ⟨Nat.le_trans SZ.out hg_.size⟩; have n4_ : Aside0 ((Kd.tag f_ (Kd.slice 3 (Kd.int .i64))).R 46 w_5 w.heap.size (fun k_ => NB ≤ k_) u7 L) := ⟨Kd.R_grown (row := some w_1.heap.size) HO.out hg_ (fun k_ hk_ h_ => by have := Option.some.inj h_; have h2_ : NB ≤ k_ := hk_; have := ORD.out; omega)⟩; have n5_ : Aside0 ((Kd.tag f_ (Kd.slice 3 (Kd.int .i64))).M w_5 N0 (fun k_ => N0 ≤ k_ ∧ k_ < N1) ((y, i) : List Int × Nat) [.slice (some ⟨gp, 0, none⟩) y.length cp]) := ⟨Kd.M_grown (row := some w_1.heap.size) QR.out hg_ (fun k_ hk_ h_ => by have := Option.some.inj h_; have := hk_.1; have := ORD.out; omega)⟩; (try clear HS); (try clear HB); (try clear HP); (try clear SZ); (try clear HO); (try clear QR); have HS := n0_; have HB := n1_; have HP := n2_; have SZ := n3_; have HO := n4_; have QR := n5_; clear n0_ n1_ n2_ n3_ n4_ n5_; clear hs_ hg_ hr_))
        clear cp0
        rcases (by omega : (r5.length : Int) > m ∨ (r5.length : Int) = m ∨ (r5.length : Int) < m) with hgt | heq | hlt
        · have d1 : decide ((r5.length : Int) > m) = true := decide_eq_true hgt
          have d1' : decide (m < (r5.length : Int)) = true := decide_eq_true hgt
          obtain ⟨L2, hL2⟩ : ∃ L2 : List (List Int × Nat), L2 = [] ++ [((y, i) : List Int × Nat)] := ⟨_, rfl⟩
          have NL2 := Aside0.mk hL2
          have HL3 : Aside0 (hScan cnt (PL.drop (i + 1)) (L2.map (·.1)) (r5.length : Int) = r1) := ⟨by
            have h_ := HL2.out
            rw [hScan, HN.out, if_pos hgt] at h_
            rw [hL2]
            exact h_⟩
          have HLL2 : Aside0 (L2.length ≤ i + 1 ∧ (L2.map (·.2)).Pairwise (· < ·) ∧ ∀ x ∈ L2.map (·.2), x < i + 1) := ⟨by rw [hL2]; simp⟩
          have OWN0 := OWN
          clear OWN
          have OWN : Aside0 (∀ k_, (Value.slice none 0 0).ownBlock = some k_ → NB ≤ k_ ∧ (k_ < N0 ∨ N1 ≤ k_)) := ⟨by simp [Value.ownBlock]⟩
          clear hgt hL2 HL2 HO OWN0
          go_wp2_with (first | (first | ((with_reducible refine gate_builtin (b := .append) (xs := #[.tmp 39, .tmp 41]) rfl ?_); at_builtin; refine Kd.R_append (Kd.tag f_ (Kd.slice 3 (Kd.int .i64))) (w0 := w_5) (w.heap.size) rfl (.tmp 39) (.tmp 41) 30 46 (.slice none 0 0) 24 rfl Try.underlying30 info46 rfl (show 0 < 1 from Nat.zero_lt_one) (by omega) (.slice none 0 0) [] ((y, i) : List Int × Nat) [.slice (some ⟨gp, 0, none⟩) y.length cp] (fun k_ => NB ≤ k_) (fun k_ => N0 ≤ k_ ∧ k_ < N1) rfl rfl ?aP (fun k_ hk_ => ⟨by have h1_ := hk_.1; have := ORD.out; show NB ≤ k_; omega, fun h_ => by have h2_ := OWN.out k_ h_.symm; have h3_ := hk_.2; have h4_ := hk_.1; omega⟩) ?aF ?aO ?aB ?aS ?aL ?_; (case aP => exact Kd.M_lower _ (show w.heap.size ≤ N0 by have := ORD.out; omega) QR.out); (case aB => exact Below.refl _ _); (case aF => exact (fun k_ hk_ => by have := SZ.out; have := ORD.out; show NB ≤ k_; omega)); (case aO => exact Kd.R_nil _ _ _ _ _); (case aS => exact HB.out.size); (case aL => have := HI.out; have := HLL.out.1; have := HPN.out; (try simp only [List.length_nil]); omega); intro v_ w_6 ho_ hb_ hg_ hat_; rw [← NL2.out] at ho_; (try clear HO); have n0_ : Aside0 (Hou w_6 w_1.heap.size) := ⟨Hm.Mem.same HS.out (World.grownBy.block hg_ w_1.heap.size (Hm.Mem.lt HS.out) (fun h_ => by have h2_ := OWN.out w_1.heap.size h_.symm; have := ORD.out; omega))⟩; have n1_ : Aside0 (Below w.heap.size w w_6) := ⟨Hx.bb_append (by first | exact HB.out | exact below_drew1 HB.out) hg_ (fun k_ h_ => by have h2_ := OWN.out k_ h_; have := ORD.out; omega)⟩; have n2_ : Aside0 ((Kd.tag f_ (Kd.slice 3 (Kd.int .i64))).R 46 w_6 N0 (fun k_ => N0 ≤ k_ ∧ k_ < N1) (.slice (some adP) PL.length cP) PL.zipIdx) := ⟨Kd.R_grown HP.out hg_ (fun k_ hk_ h_ => by have h2_ := OWN.out k_ h_.symm; have h3_ := hk_.2; have h4_ := hk_.1; omega)⟩; have n3_ : Aside0 (N1 ≤ w_6.heap.size) := ⟨Nat.le_trans SZ.out hg_.size⟩; have m0_ : Aside0 ((Kd.tag f_ (Kd.slice 3 (Kd.int .i64))).R 46 w_6 w.heap.size (fun k_ => NB ≤ k_) v_ L2) := ⟨ho_⟩; have m1_ : Aside0 (∀ k_, v_.ownBlock = some k_ → NB ≤ k_ ∧ (k_ < N0 ∨ N1 ≤ k_)) := ⟨fun k_ h_ => hat_.elim (fun h2_ => OWN.out k_ (by rw [← h2_]; exact h_)) (fun h2_ => by obtain ⟨b_, h3_, h4_⟩ := h2_; rw [h3_] at h_; have := Option.some.inj h_; have := SZ.out; have := ORD.out; omega)⟩; (try clear HS); (try clear HB); (try clear HP); (try clear SZ); have HS := n0_; have HB := n1_; have HP := n2_; have SZ := n3_; have HO := m0_; have OWN2 := m1_; clear n0_ n1_ n2_ n3_ m0_ m1_; clear ho_ hb_ hg_ hat_ QR)))
          go_roundg k1
          case measure => omega
          case rel => exact ⟨i + 1, _, L2, rfl, rfl, ⟨by have := HI.out; omega⟩, HL3, HLL2, HO, OWN2, HP, HS, HB, SZ⟩
        · have d1 : decide ((r5.length : Int) > m) = false := decide_eq_false (by omega)
          have d1' : decide (m < (r5.length : Int)) = false := decide_eq_false (by omega)
          have d2 : ((r5.length : Int) == m) = true := by simpa using heq
          obtain ⟨L2, hL2⟩ : ∃ L2 : List (List Int × Nat), L2 = L ++ [((y, i) : List Int × Nat)] := ⟨_, rfl⟩
          have NL2 := Aside0.mk hL2
          have HL3 : Aside0 (hScan cnt (PL.drop (i + 1)) (L2.map (·.1)) m = r1) := ⟨by
            have h_ := HL2.out
            rw [hScan, HN.out, if_neg (by omega), if_pos heq] at h_
            rw [hL2, List.map_append]
            exact h_⟩
          have HLL2 : Aside0 (L2.length ≤ i + 1 ∧ (L2.map (·.2)).Pairwise (· < ·) ∧ ∀ x ∈ L2.map (·.2), x < i + 1) := ⟨by
            obtain ⟨q1, q2, q3⟩ := HLL.out
            rw [hL2, List.map_append]
            refine ⟨by simp; omega, List.pairwise_append.2 ⟨q2, by simp, fun a ha b hb => ?_⟩, fun x hx => ?_⟩
            · have h_ : b = i := by simpa using hb
              rw [h_]
              exact q3 a ha
            · rcases List.mem_append.1 hx with h_ | h_
              · have := q3 x h_; omega
              · have h2_ : x = i := by simpa using h_
                omega⟩
          clear heq hL2 HL2
          go_wp2_with (first | (first | ((with_reducible refine gate_builtin (b := .append) (xs := #[.tmp 39, .tmp 41]) rfl ?_); at_builtin; refine Kd.R_append (Kd.tag f_ (Kd.slice 3 (Kd.int .i64))) (w0 := w_5) (w.heap.size) rfl (.tmp 39) (.tmp 41) 30 46 (.slice none 0 0) 24 rfl Try.underlying30 info46 rfl (show 0 < 1 from Nat.zero_lt_one) (by omega) u7 L ((y, i) : List Int × Nat) [.slice (some ⟨gp, 0, none⟩) y.length cp] (fun k_ => NB ≤ k_) (fun k_ => N0 ≤ k_ ∧ k_ < N1) rfl rfl ?aP (fun k_ hk_ => ⟨by have h1_ := hk_.1; have := ORD.out; show NB ≤ k_; omega, fun h_ => by have h2_ := OWN.out k_ h_.symm; have h3_ := hk_.2; have h4_ := hk_.1; omega⟩) ?aF ?aO ?aB ?aS ?aL ?_; (case aP => exact Kd.M_lower _ (show w.heap.size ≤ N0 by have := ORD.out; omega) QR.out); (case aB => exact Below.refl _ _); (case aF => exact (fun k_ hk_ => by have := SZ.out; have := ORD.out; show NB ≤ k_; omega)); (case aO => exact HO.out); (case aS => exact HB.out.size); (case aL => have := HI.out; have := HLL.out.1; have := HPN.out; (try simp only [List.length_nil]); omega); intro v_ w_6 ho_ hb_ hg_ hat_; rw [← NL2.out] at ho_; (try clear HO); have n0_ : Aside0 (Hou w_6 w_1.heap.size) := ⟨Hm.Mem.same HS.out (World.grownBy.block hg_ w_1.heap.size (Hm.Mem.lt HS.out) (fun h_ => by have h2_ := OWN.out w_1.heap.size h_.symm; have := ORD.out; omega))⟩; have n1_ : Aside0 (Below w.heap.size w w_6) := ⟨Hx.bb_append (by first | exact HB.out | exact below_drew1 HB.out) hg_ (fun k_ h_ => by have h2_ := OWN.out k_ h_; have := ORD.out; omega)⟩; have n2_ : Aside0 ((Kd.tag f_ (Kd.slice 3 (Kd.int .i64))).R 46 w_6 N0 (fun k_ => N0 ≤ k_ ∧ k_ < N1) (.slice (some adP) PL.length cP) PL.zipIdx) := ⟨Kd.R_grown HP.out hg_ (fun k_ hk_ h_ => by have h2_ := OWN.out k_ h_.symm; have h3_ := hk_.2; have h4_ := hk_.1; omega)⟩; have n3_ : Aside0 (N1 ≤ w_6.heap.size) := ⟨Nat.le_trans SZ.out hg_.size⟩; have m0_ : Aside0 ((Kd.tag f_ (Kd.slice 3 (Kd.int .i64))).R 46 w_6 w.heap.size (fun k_ => NB ≤ k_) v_ L2) := ⟨ho_⟩; have m1_ : Aside0 (∀ k_, v_.ownBlock = some k_ → NB ≤ k_ ∧ (k_ < N0 ∨ N1 ≤ k_)) := ⟨fun k_ h_ => hat_.elim (fun h2_ => OWN.out k_ (by rw [← h2_]; exact h_)) (fun h2_ => by obtain ⟨b_, h3_, h4_⟩ := h2_; rw [h3_] at h_; have := Option.some.inj h_; have := SZ.out; have := ORD.out; omega)⟩; (try clear HS); (try clear HB); (try clear HP); (try clear SZ); have HS := n0_; have HB := n1_; have HP := n2_; have SZ := n3_; have HO := m0_; have OWN2 := m1_; clear n0_ n1_ n2_ n3_ m0_ m1_; clear ho_ hb_ hg_ hat_ QR)))
          go_roundg k1
          case measure => omega
          case rel => exact ⟨i + 1, m, L2, rfl, rfl, ⟨by have := HI.out; omega⟩, HL3, HLL2, HO, OWN2, HP, HS, HB, SZ⟩
        · have d1 : decide ((r5.length : Int) > m) = false := decide_eq_false (by omega)
          have d1' : decide (m < (r5.length : Int)) = false := decide_eq_false (by omega)
          have d2 : ((r5.length : Int) == m) = false := by simp; omega
          have HL3 : Aside0 (hScan cnt (PL.drop (i + 1)) (L.map (·.1)) m = r1) := ⟨by
            have h_ := HL2.out
            rw [hScan, HN.out, if_neg (by omega), if_neg (by omega)] at h_
            exact h_⟩
          have HLL2 : Aside0 (L.length ≤ i + 1 ∧ (L.map (·.2)).Pairwise (· < ·) ∧ ∀ x ∈ L.map (·.2), x < i + 1) := ⟨by
            obtain ⟨q1, q2, q3⟩ := HLL.out
            exact ⟨by omega, q2, fun x hx => Nat.lt_succ_of_lt (q3 x hx)⟩⟩
          clear hlt HL2
          go_wp2
          go_roundg k1
          case measure => omega
          case rel => exact ⟨i + 1, m, L, rfl, rfl, ⟨by have := HI.out; omega⟩, HL3, HLL2, HO, OWN, HP, HS, HB, SZ⟩
      · have dd0 : decide ((i : Int) < (PL.length : Int)) = false := decide_eq_false (by omega)
        have dd0n : decide (i < PL.length) = false := decide_eq_false hlt
        have HE : Aside0 (L.map (·.1) = r1) := ⟨by
          have h_ := HL.out
          rw [List.drop_of_length_le (by omega)] at h_
          exact h_⟩
        clear hlt
        go_wp2
        go_ret2
        refine ⟨_, rfl, ?_, HB.out⟩
        rw [← HE.out]
        exact Kd.S_mono (Hx.S_of_tags HO.out (HLL.out.2.1.imp (fun h_ => Nat.ne_of_lt h_))) (fun _ _ => trivial)


-- FOR spec.hoPlay
-- CALLS spec.hoDrops ; (impl.houser).play ; spec.hoNeeded ; spec.l1Own
-- USES kd impl.HouseDrop
-- USES info impl.HouseDrop
/-- A row of whole numbers of one's own, at a known block. -/
def Own (w : World) (g n c : Nat) (xs : List Int) : Prop := Kd.R (Kd.int .i64) 3 w 0 (fun k_ => k_ = g) (.slice (some ⟨g, 0, none⟩) n c) xs
theorem Own.len {w : World} {g n c : Nat} {xs : List Int} (h : Own w g n c xs) : xs.length = n := (Kd.R_reads' h).1.symm
theorem Own.cap {w : World} {g n c : Nat} {xs : List Int} (h : Own w g n c xs) : n ≤ c := (Kd.R_reads' h).2.1
theorem Own.below {w w' : World} {g n c : Nat} {xs : List Int} (h : Own w g n c xs) (hb : Below w.heap.size w w') : Own w' g n c xs := Kd.R_below h hb
theorem Own.grown {w w' : World} {g n c : Nat} {xs : List Int} {o : Option Nat} (h : Own w g n c xs) (hg : w.grownBy w' o) (ho : some g ≠ o) : Own w' g n c xs := Kd.R_grown h hg (fun k hk => by subst hk; exact ho)
theorem Own.far {w : World} {g n c g' i : Nat} {u : Value} {xs : List Int} (h : Own w g n c xs) (hne : g ≠ g') : Own (w.setCell ⟨g', i, none⟩ u) g n c xs := Kd.R_far h (fun k hk => by subst hk; exact hne) _
theorem Own.lt {w : World} {g n c : Nat} {xs : List Int} (h : Own w g n c xs) (hn : 0 < n) : g < w.heap.size := by
  have hl := h.len
  obtain ⟨g', cap, e, _, h2, _⟩ := Kd.R_form h (by omega)
  injection e with e1
  injection e1 with e2
  injection e2 with e3
  omega
theorem Own.look {w : World} {g n c : Nat} {xs : List Int} (h : Own w g n c xs) {i : Nat} (hi : i < n) : w.cell? ⟨g, i, none⟩ = some (.int .i64 (xs.getD i 0)) ∧ w.frozen? ⟨g, i, none⟩ = false := by
  have hl := h.len
  obtain ⟨c1, c2⟩ := Kd.R_celln 0 h (i : Int) (by omega) (by omega)
  simp only [Int.toNat_natCast] at c1 c2
  exact ⟨c1, c2⟩
theorem Own.put {w : World} {g n c : Nat} {xs : List Int} (h : Own w g n c xs) (i : Nat) (x : Int) : Own (w.setCell ⟨g, i, none⟩ (.int .i64 x)) g n c (xs.set i x) := by
  have h3 := Kd.R_putg h (i : Int) x
  simp only [Int.toNat_natCast] at h3
  exact h3.1
theorem Own.lst {w : World} {g n c tb : Nat} {xs : List Int} (h : Own w g n c xs) (hne : g ≠ tb) : Lst w tb (some ⟨g, 0, none⟩) xs := by
  have h2 := Kd.R_reads' h
  have h3 := h2.2.2
  exact ⟨h3, fun ad ha => by injection ha with ha; subst ha; exact hne⟩
theorem own_of {w : World} {b n : Nat} {v : Value} {xs : List Int} (h : Kd.R (Kd.int .i64) 3 w b (fun _ => True) v xs) (hn : xs.length = n) (hp : 0 < n) : ∃ g c : Nat, v = .slice (some ⟨g, 0, none⟩) n c ∧ Own w g n c xs ∧ b ≤ g := by
  obtain ⟨g, cap, e, h1, h2, _⟩ := Kd.R_form h (by omega)
  rw [hn] at e
  subst e
  refine ⟨g, cap, rfl, ?_, h1⟩
  obtain ⟨h0, inner, ho, hr⟩ := Kd.R_lower h (Nat.zero_le b)
  exact ⟨fun k hk => by simpa [Value.ownBlock] using hk.symm, inner, ho, hr⟩
theorem upd_get (m : List Int) {h : Nat} (hh : h < m.length) (x : Int) : upd (fun i => m.getD i 0) h x = fun i => (m.set h x).getD i 0 := by
  funext i
  show (if i = h then x else m.getD i 0) = (m.set h x).getD i 0
  rw [List.getD_eq_getElem?_getD, List.getD_eq_getElem?_getD, List.getElem?_set]
  by_cases e : h = i
  · subst e
    rw [if_pos rfl, if_pos rfl, if_pos hh]
    rfl
  · rw [if_neg (fun h_ => e h_.symm), if_neg e]
theorem rep_get (n : Nat) : (fun i => (List.replicate n (0 : Int)).getD i 0) = fun _ => 0 := by
  funext i
  rw [List.getD_eq_getElem?_getD, List.getElem?_replicate]
  split <;> rfl

set_option maxHeartbeats 80000000 in
set_option maxRecDepth 100000 in
theorem shplay_of (tb c0 : Nat) (e : Int) (l bs : List Int) (hl : LGood l) (he : 0 ≤ e ∧ e ≤ 6) (hv : PGood bs.length (vOf e l) (fun _ => 0)) (hbl : bs.length = l.length) (r : List S104) (hr : r = hPlay bs (vOf e l).ms (vOf e l) (fun _ => 0)) (A : Option Addr) (c : Nat) (hc : l.length ≤ c) (A2 : Option Addr) (c2 : Nat) (hc2 : bs.length ≤ c2) (w : World) (hL : Lst w tb A l) (hL2 : Lst w tb A2 bs) (hT : HTab w tb c0) :
    Calls Try.prog 89 #[.slice (some ⟨tb, 0, none⟩) 5103 c0, .int .i64 e, .slice A l.length c, .slice A2 bs.length c2] w fun e_ w' => ∃ v_ : Value, e_ = .returned v_ ∧ Kd.R k104 104 w' w.heap.size (fun _ => True) v_ r ∧ HTab w' tb c0 ∧ w.grownBy w' (some tb) := by
  have HT := Aside0.mk hT
  have HG := Aside0.mk (Hx.g_refl w (some tb))
  obtain ⟨ad, rfl, hx00⟩ := Lst.look hL2 (show 0 < bs.length by have := hl.1; omega)
  have HAL := Aside0.mk (Kd.C_lt hL2.1 (show 0 < bs.length by have := hl.1; omega) (by decide))
  have LS := Aside0.mk hL2
  have LA := Aside0.mk hL
  have ORD : Aside0 (tb < w.heap.size ∧ ad.block < w.heap.size) := ⟨⟨hT.lt, HAL.out⟩⟩
  have HP := Aside0.mk hv
  have HMS : Aside0 ((vOf e l).ms ≤ 24) := ⟨by have := hv.1; unfold VGood at this; unfold VS.ms; omega⟩
  have HR_ := Aside0.mk hr
  have HOW : Aside0 (∀ W, Lst W tb A l → Calls Try.prog 126 #[.slice A l.length c] W fun e w' => ∃ v0_ : Value, e = .returned (v0_) ∧ Kd.R (Kd.int .i64) 3 w' W.heap.size (fun _ => True) v0_ l ∧ Below W.heap.size W w') := ⟨fun W hW => spec_l1Own.calls A c l l W hW.1 hc (own_is hl.2.1)⟩
  have HLG := Aside0.mk hl
  have HBL := Aside0.mk hbl
  obtain ⟨N, hN⟩ : ∃ N, N = l.length := ⟨_, rfl⟩
  have HN0 : Aside0 (0 < N) := ⟨by have := hl.1; omega⟩
  have HN3 : Aside0 (N ≤ 3) := ⟨by have := hl.2.1; omega⟩
  rw [← hN] at HOW ⊢
  have HNL := Aside0.mk hN
  have hn0_ : (0 : Int) ≤ (N : Int) := by omega
  have wn_ : IntKind.i64.wrap (N : Int) = (N : Int) := Hw.wrap_w (by omega) (by have := HN3.out; omega)
  clear hT hL hL2 hx00 hv hc hr hl he hbl hc2 hN
  go_enter Try.func89, Try.ntmps89
  go_upto_region 3 with (first | ((with_reducible refine gate_dst (N := 18) rfl ?_); refine Kd.R_make (Kd.int .i64) _ 3 rfl (N := 18) rfl 46 _ _ rfl (N : Int) rfl rfl Try.underlying46 (.int .i64 0) 8 info3 rfl (by decide) (by omega) 0 (ok := fun _ => True) (okp := fun _ => True) rfl (fun _ hk => hk) trivial (by omega) (by have := HN3.out; omega) (Below.refl _ _) (Nat.le_refl _) ?_; intro v_ w_1 ho_ hb_ hg_ hn_; clear hg_ hn_; rw [Int.toNat_natCast] at ho_; obtain ⟨gM, cM, rfl, om_, bm_⟩ := own_of ho_ (List.length_replicate) HN0.out; have ORD_ : Aside0 ((tb < w.heap.size ∧ ad.block < w.heap.size) ∧ w.heap.size ≤ gM) := ⟨by refine ⟨ORD.out, ?_⟩; have := HT.out.lt; have := HG.out.size; omega⟩; clear ORD; have ORD := ORD_; clear ORD_; have n0_ : Aside0 (HTab w_1 tb c0) := ⟨HTab.below (w := _) (by exact HT.out) hb_⟩; have n1_ : Aside0 (w.grownBy w_1 (some tb)) := ⟨Hx.g_below (by first | exact HG.out | exact Hx.g_drew HG.out | exact Hx.g_drewN HG.out _) hb_⟩; have n2_ : Aside0 (Lst w_1 tb (some ad) bs) := ⟨Lst.below (w := _) (by exact LS.out) hb_⟩; have n3_ : Aside0 (Lst w_1 tb A l) := ⟨Lst.below (w := _) (by exact LA.out) hb_⟩; have m0_ : Aside0 (Own w_1 gM N cM (List.replicate N 0)) := ⟨om_⟩; (try clear HT); (try clear HG); (try clear LS); (try clear LA); have HT := n0_; have HG := n1_; have LS := n2_; have LA := n3_; have OM := m0_; clear n0_ n1_ n2_ n3_ m0_; clear ho_ hb_ om_ bm_) | ((with_reducible refine gate_callee (f := 126) rfl ?_); refine goesL_ (some 20) rfl rfl Try.func126 (by kernel_rfl) rfl #[.slice A N c] rfl (by (try simp only [List.map_toArray, List.map_cons, List.map_nil]); first | done | rfl) ?_; refine (HOW.out w_1 LA.out).mono ?_; rintro e_ w_2 ⟨v_, rfl, hr_, hb_⟩; refine ⟨_, rfl, ?_⟩; obtain ⟨gL, cL, rfl, ol_, bl_⟩ := own_of hr_ HNL.out.symm HN0.out; have ORD_ : Aside0 (((tb < w.heap.size ∧ ad.block < w.heap.size) ∧ w.heap.size ≤ gM) ∧ w.heap.size ≤ gL ∧ gM < gL) := ⟨by refine ⟨ORD.out, ?_⟩; have := HT.out.lt; have := HG.out.size; have := Own.lt OM.out HN0.out; omega⟩; clear ORD; have ORD := ORD_; clear ORD_; have n0_ : Aside0 (HTab w_2 tb c0) := ⟨HTab.below (w := _) (by exact HT.out) hb_⟩; have n1_ : Aside0 (w.grownBy w_2 (some tb)) := ⟨Hx.g_below (by first | exact HG.out | exact Hx.g_drew HG.out | exact Hx.g_drewN HG.out _) hb_⟩; have n2_ : Aside0 (Lst w_2 tb (some ad) bs) := ⟨Lst.below (w := _) (by exact LS.out) hb_⟩; have n3_ : Aside0 (Lst w_2 tb A l) := ⟨Lst.below (w := _) (by exact LA.out) hb_⟩; have n4_ : Aside0 (Own w_2 gM N cM (List.replicate N 0)) := ⟨Own.below (w := _) (by exact OM.out) hb_⟩; have m0_ : Aside0 (Own w_2 gL N cL l) := ⟨ol_⟩; (try clear HT); (try clear HG); (try clear LS); (try clear LA); (try clear OM); have HT := n0_; have HG := n1_; have LS := n2_; have LA := n3_; have OM := n4_; have OL := m0_; clear n0_ n1_ n2_ n3_ n4_ m0_; clear hr_ hb_ ol_ bl_))
  go_wp2
  go_loopg [1, 11] (vOf e l).ms (fun n v1 v11 w' => ∃ (e' : Int) (l2 m : List Int) (xs : List S104), v1 = .int .i64 e' ∧ Aside0 (PGood bs.length (vOf e' l2) (fun i => m.getD i 0) ∧ (vOf e' l2).ms ≤ n ∧ xs.length + n ≤ 24 ∧ LGood l2 ∧ l2.length = N ∧ m.length = N) ∧ Aside0 (xs ++ hPlay bs n (vOf e' l2) (fun i => m.getD i 0) = r) ∧ Aside0 (Kd.R k104 104 w' w.heap.size (fun k_ => w.heap.size ≤ k_ ∧ k_ ≠ gL ∧ k_ ≠ gM) v11 xs) ∧ Aside0 (Own w' gL N cL l2) ∧ Aside0 (Own w' gM N cM m) ∧ Aside0 (HTab w' tb c0) ∧ Aside0 (w.grownBy w' (some tb)) ∧ Aside0 (Lst w' tb (some ad) bs))
  case atStart => exact ⟨e, l, List.replicate N 0, [], rfl, ⟨⟨by rw [rep_get]; exact HP.out, Nat.le_refl _, by simpa using HMS.out, HLG.out, HNL.out.symm, List.length_replicate⟩⟩, ⟨by rw [rep_get]; exact HR_.out.symm⟩, ⟨Kd.R_nil _ _ _ _ _⟩, OL, OM, HT, HG, LS⟩
  case round =>
    clear HT HG OL OM LS LA
    obtain ⟨e', l2, m, xs, rfl, HI, HL, HR0', OL, OM, HT, HG, LS⟩ := hrel
    have HR : Aside0 (Kd.R k104 104 wr w.heap.size (fun k_ => w.heap.size ≤ k_ ∧ k_ ≠ gL ∧ k_ ≠ gM ∧ k_ < wr.heap.size) u11 xs) := ⟨Kd.R_mono (Kd.R_bound HR0'.out) (fun k_ hk_ => ⟨hk_.1.1, hk_.1.2.1, hk_.1.2.2, hk_.2.2.1⟩)⟩
    clear HR0'
    have ORD_ : Aside0 ((((tb < w.heap.size ∧ ad.block < w.heap.size) ∧ w.heap.size ≤ gM) ∧ w.heap.size ≤ gL ∧ gM < gL) ∧ gL < wr.heap.size) := ⟨⟨ORD.out, Own.lt OL.out HN0.out⟩⟩
    clear ORD
    have ORD := ORD_
    clear ORD_
    have SZ := Aside0.mk (Nat.le_refl wr.heap.size)
    have HQ := Aside0.mk HI.out.1
    have HGL := Aside0.mk HI.out.2.2.2.1
    have HL2N := Aside0.mk HI.out.2.2.2.2.1
    have HMN := Aside0.mk HI.out.2.2.2.2.2
    obtain ⟨nd, hnd⟩ : ∃ nd, nd = (vOf e' l2).need := ⟨_, rfl⟩
    have hn := need_is e' (l := l2) ⟨HGL.out.1, HGL.out.2.1⟩
    rw [← hnd] at hn
    have hnl := need_lo (vOf e' l2)
    rw [← hnd] at hnl
    have HND := Aside0.mk hnd
    have HNC : Aside0 (∀ W, Own W gL N cL l2 → Calls Try.prog 81 #[.slice (some ⟨gL, 0, none⟩) N cL] W fun e w' => e = .returned (.int .i64 nd) ∧ Drawn0 W w') := ⟨fun W hW => by
      have h2 := Kd.R_reads' hW
      have h_ := spec_hoNeeded.calls 9 (some ⟨gL, 0, none⟩) cL l2 nd W h2.2.2 (by have := h2.2.1; have := HL2N.out; omega) hn
      rw [HL2N.out] at h_
      exact h_⟩
    clear hn hnd
    by_cases hd : nd = 0
    · have e1 : decide (nd > 0) = false := decide_eq_false (by omega)
      have e2 : decide (0 < nd) = false := decide_eq_false (by omega)
      have hxs : xs = r := by
        have h_ := HL.out
        have hz : hPlay bs gk (vOf e' l2) (fun i => m.getD i 0) = [] := by cases gk <;> simp [hPlay, ← HND.out, hd]
        rw [hz] at h_
        simpa using h_
      subst hxs
      clear hd hnl
      go_wp2_with (first | ((with_reducible refine gate_callee (f := 81) rfl ?_); refine goesL_ (some 22) rfl rfl Try.func81 (by kernel_rfl) rfl #[.slice (some ⟨gL, 0, none⟩) N cL] rfl (by (try simp only [List.map_toArray, List.map_cons, List.map_nil]); first | done | rfl) ?_; refine (HNC.out _ OL.out).mono ?_; rintro e_ w_1 ⟨rfl, hd_⟩; refine ⟨_, rfl, ?_⟩; have hb_ : Below _ _ w_1 := (by first | exact hd_ | exact hd_.below); clear hd_; have n0_ : Aside0 (HTab w_1 tb c0) := ⟨HTab.below (w := _) (by exact HT.out) hb_⟩; have n1_ : Aside0 (w.grownBy w_1 (some tb)) := ⟨Hx.g_below (by first | exact HG.out | exact Hx.g_drew HG.out | exact Hx.g_drewN HG.out _) hb_⟩; have n2_ : Aside0 (Own w_1 gL N cL l2) := ⟨Own.below (w := _) (by exact OL.out) hb_⟩; have n3_ : Aside0 (Own w_1 gM N cM m) := ⟨Own.below (w := _) (by exact OM.out) hb_⟩; have n4_ : Aside0 (Lst w_1 tb (some ad) bs) := ⟨Lst.below (w := _) (by exact LS.out) hb_⟩; have n5_ : Aside0 (Kd.R k104 104 w_1 w.heap.size (fun k_ => w.heap.size ≤ k_ ∧ k_ ≠ gL ∧ k_ ≠ gM ∧ k_ < wr.heap.size) u11 xs) := ⟨Kd.R_below HR.out hb_⟩; have n6_ : Aside0 (wr.heap.size ≤ w_1.heap.size) := ⟨Nat.le_trans SZ.out hb_.size⟩; (try clear HT); (try clear HG); (try clear OL); (try clear OM); (try clear LS); (try clear HR); (try clear SZ); have HT := n0_; have HG := n1_; have OL := n2_; have OM := n3_; have LS := n4_; have HR := n5_; have SZ := n6_; clear n0_ n1_ n2_ n3_ n4_ n5_ n6_; clear hb_))
      go_ret
      exact ⟨_, rfl, Kd.R_mono HR.out (fun _ _ => trivial), HT.out, HG.out⟩
    · have e1 : decide (nd > 0) = true := decide_eq_true (by omega)
      have e2 : decide (0 < nd) = true := decide_eq_true (by omega)
      have hn0 : (vOf e' l2).need ≠ 0 := by rw [← HND.out]; exact hd
      have hlt := HQ.out.lt hn0
      have hnx := fun br => HQ.out.nxt hn0 br
      have hok := HQ.out.ok hn0
      have hee : 1 ≤ e' ∧ e' ≤ 6 := by have h_ := hok.2.1; have h2_ := hok.2.2; have h3_ := hok.1; unfold VGood at h3_; have h4_ : (vOf e' l2).e = e' := rfl; omega
      have hpf := vFirst_ok hok
      obtain ⟨ys, hys⟩ := vLits_first hok
      obtain ⟨br, hbr⟩ : ∃ br, br = hBrk bs (vOf e' l2) (fun i => m.getD i 0) := ⟨_, rfl⟩
      obtain ⟨k1, rfl⟩ : ∃ k1, gk = k1 + 1 := ⟨gk - 1, by have h1_ := HI.out.2.1; have h2_ := (hnx br).2; omega⟩
      have HL2 : Aside0 ((xs ++ [(⟨((vFirst (vOf e' l2)).1 : Int), m.getD (vFirst (vOf e' l2)).1 0 + (vFirst (vOf e' l2)).2, br⟩ : S104)]) ++ hPlay bs k1 ((vOf e' l2).nxt br) (hLow (vOf e' l2) (fun i => m.getD i 0) br) = r) := ⟨by
        have h_ := HL.out
        rw [hPlay, if_neg hn0, ← hbr] at h_
        rw [← h_]
        simp⟩
      have hcb : decide (bs.getD (vFirst (vOf e' l2)).1 0 < m.getD (vFirst (vOf e' l2)).1 0 + (vFirst (vOf e' l2)).2) = br := hbr.symm
      have HDC : Aside0 (∀ W, Own W gL N cL l2 → HTab W tb c0 → Calls Try.prog 82 #[.slice (some ⟨tb, 0, none⟩) 5103 c0, .int .i64 e', .slice (some ⟨gL, 0, none⟩) N cL] W fun e_ w' => ∃ v_ : Value, e_ = .returned v_ ∧ Kd.S (Kd.slice 3 (Kd.int .i64)) 46 w' W.heap.size (fun _ => True) v_ ([((vFirst (vOf e' l2)).1 : Int), (vFirst (vOf e' l2)).2] :: ys) ∧ HTab w' tb c0 ∧ W.grownBy w' (some tb)) := ⟨fun W hW hT_ => by
        have h_ := hdrops_of tb c0 e' l2 HGL.out (by omega) hok.2.2 _ hys (some ⟨gL, 0, none⟩) cL W (by have := Own.cap hW; have := HL2N.out; omega) (Own.lst hW (by have := ORD.out; omega)) hT_
        rw [HL2N.out] at h_
        exact h_⟩
      have HHN : Aside0 ((vFirst (vOf e' l2)).1 < N) := ⟨by have := hlt.1; have := HBL.out; have := HNL.out; omega⟩
      have hxg := vOf_get e' l2 hlt.2.1
      rw [hxg] at hlt
      have HNXT : Aside0 ((vOf e' l2).nxt true = vOf (e' - 1) (l2.set (vFirst (vOf e' l2)).1 ((vFirst (vOf e' l2)).2 - 1))) := ⟨(vOf_brk e' _ HGL.out.2.1 (by have := HHN.out; have := HL2N.out; omega)).symm⟩
      have HNXF : Aside0 ((vOf e' l2).nxt false = vOf e' (l2.set (vFirst (vOf e' l2)).1 (l2.getD (vFirst (vOf e' l2)).1 0 - (vFirst (vOf e' l2)).2))) := ⟨(vOf_whl e' _ HGL.out.2.1 (by have := HHN.out; have := HL2N.out; omega)).symm⟩
      have HLOT : Aside0 (hLow (vOf e' l2) (fun i => m.getD i 0) true = fun i => m.getD i 0) := ⟨rfl⟩
      have HLOF : Aside0 (hLow (vOf e' l2) (fun i => m.getD i 0) false = fun i => (m.set (vFirst (vOf e' l2)).1 (m.getD (vFirst (vOf e' l2)).1 0 + (vFirst (vOf e' l2)).2)).getD i 0) := ⟨upd_get m (by have := HHN.out; have := HMN.out; omega) _⟩
      have HNX := Aside0.mk (hnx br)
      obtain ⟨h, hh⟩ : ∃ h, h = (vFirst (vOf e' l2)).1 := ⟨_, rfl⟩
      obtain ⟨f, hf⟩ : ∃ f, f = (vFirst (vOf e' l2)).2 := ⟨_, rfl⟩
      rw [← hh, ← hf] at hlt hcb HL2 HDC HNXT HNXF HLOF
      rw [← hh] at HHN
      (try simp only at hlt)
      obtain ⟨x, hx⟩ : ∃ x, x = m.getD h 0 := ⟨_, rfl⟩
      rw [← hx] at hlt hcb HL2 HLOF
      have HXM := Aside0.mk hx
      obtain ⟨xl, hxl⟩ : ∃ xl, xl = l2.getD h 0 := ⟨_, rfl⟩
      rw [← hxl] at hlt HNXF
      have HXL := Aside0.mk hxl
      obtain ⟨b, hb⟩ : ∃ b, b = bs.getD h 0 := ⟨_, rfl⟩
      rw [← hb] at hcb
      have HBB := Aside0.mk hb
      have HLT := Aside0.mk hlt
      obtain ⟨fl, hfl⟩ : ∃ fl, fl = x + f := ⟨_, rfl⟩
      have wx : IntKind.i64.wrap (x + f) = fl := by rw [hfl]; exact Hw.wrap_w (by omega) (by omega)
      have wx64 : wrap64 (x + f) = fl := by rw [hfl]; exact Hw.wrap_id (by omega) (by omega)
      rw [← hfl] at hcb HL2 HLOF
      obtain ⟨zs, hzs⟩ : ∃ zs : List S104, zs = xs ++ [(⟨(h : Int), fl, br⟩ : S104)] := ⟨_, rfl⟩
      have Nzs := Aside0.mk hzs
      rw [← hzs] at HL2
      have HXN : Aside0 (xs.length + 1 ≤ 24) := ⟨by have := HI.out.2.2.1; omega⟩
      have HZL : Aside0 (zs.length + k1 ≤ 24) := ⟨by have := HI.out.2.2.1; rw [hzs]; simp; omega⟩
      have HMS2 : Aside0 (((vOf e' l2).nxt br).ms ≤ k1) := ⟨by have h1_ := HI.out.2.1; have h2_ := HNX.out.2; omega⟩
      have p0 : (0 : Int) ≤ (h : Int) := by omega
      have q0 : (h : Int) < (N : Int) := by have := HHN.out; omega
      have q1 : (h : Int) < (bs.length : Int) := by omega
      have haddM := Hw.add_off gM h
      have haddL := Hw.add_off gL h
      have we1 : IntKind.i64.wrap (e' - 1) = e' - 1 := Hw.wrap_w (by omega) (by omega)
      have wf1 : IntKind.i64.wrap (f - 1) = f - 1 := Hw.wrap_w (by omega) (by omega)
      have wxf : IntKind.i64.wrap (xl - f) = xl - f := Hw.wrap_w (by omega) (by omega)
      have wxf64 : wrap64 (xl - f) = xl - f := Hw.wrap_id (by omega) (by omega)
      replace p0 := eq_true p0
      replace q0 := eq_true q0
      replace q1 := eq_true q1
      clear hd hnl hn0 hnx hpf hok hys hbr hh hf hx hxl hb hlt hfl hzs HL hxg hee
      go_upto_region 6 with (first | ((with_reducible refine gate_callee (f := 81) rfl ?_); refine goesL_ (some 22) rfl rfl Try.func81 (by kernel_rfl) rfl #[.slice (some ⟨gL, 0, none⟩) N cL] rfl (by (try simp only [List.map_toArray, List.map_cons, List.map_nil]); first | done | rfl) ?_; refine (HNC.out _ OL.out).mono ?_; rintro e_ w_1 ⟨rfl, hd_⟩; refine ⟨_, rfl, ?_⟩; have hb_ : Below _ _ w_1 := (by first | exact hd_ | exact hd_.below); clear hd_; have n0_ : Aside0 (HTab w_1 tb c0) := ⟨HTab.below (w := _) (by exact HT.out) hb_⟩; have n1_ : Aside0 (w.grownBy w_1 (some tb)) := ⟨Hx.g_below (by first | exact HG.out | exact Hx.g_drew HG.out | exact Hx.g_drewN HG.out _) hb_⟩; have n2_ : Aside0 (Own w_1 gL N cL l2) := ⟨Own.below (w := _) (by exact OL.out) hb_⟩; have n3_ : Aside0 (Own w_1 gM N cM m) := ⟨Own.below (w := _) (by exact OM.out) hb_⟩; have n4_ : Aside0 (Lst w_1 tb (some ad) bs) := ⟨Lst.below (w := _) (by exact LS.out) hb_⟩; have n5_ : Aside0 (Kd.R k104 104 w_1 w.heap.size (fun k_ => w.heap.size ≤ k_ ∧ k_ ≠ gL ∧ k_ ≠ gM ∧ k_ < wr.heap.size) u11 xs) := ⟨Kd.R_below HR.out hb_⟩; have n6_ : Aside0 (wr.heap.size ≤ w_1.heap.size) := ⟨Nat.le_trans SZ.out hb_.size⟩; (try clear HT); (try clear HG); (try clear OL); (try clear OM); (try clear LS); (try clear HR); (try clear SZ); have HT := n0_; have HG := n1_; have OL := n2_; have OM := n3_; have LS := n4_; have HR := n5_; have SZ := n6_; clear n0_ n1_ n2_ n3_ n4_ n5_ n6_; clear hb_) | ((with_reducible refine gate_callee (f := 82) rfl ?_); refine goesL_ (some 27) rfl rfl Try.func82 (by kernel_rfl) rfl #[.slice (some ⟨tb, 0, none⟩) 5103 c0, .int .i64 e', .slice (some ⟨gL, 0, none⟩) N cL] rfl (by (try simp only [List.map_toArray, List.map_cons, List.map_nil]); first | done | rfl) ?_; refine (HDC.out w_1 OL.out HT.out).mono ?_; rintro e_ w_2 ⟨v_, rfl, hr_, ht_, hg_⟩; refine ⟨_, rfl, ?_⟩; obtain ⟨g_, cc_, A2_, c2_, rfl, x0_, hr2_⟩ := row_first hr_; obtain ⟨g2, C2, rfl, gb_, R2_, y0_, y1_⟩ := row_two hr2_; have ORD_ : Aside0 (((((tb < w.heap.size ∧ ad.block < w.heap.size) ∧ w.heap.size ≤ gM) ∧ w.heap.size ≤ gL ∧ gM < gL) ∧ gL < wr.heap.size) ∧ wr.heap.size ≤ g2) := ⟨⟨ORD.out, by have := SZ.out; omega⟩⟩; clear ORD; have ORD := ORD_; clear ORD_; have Y0 := Aside0.mk y0_; have Y1 := Aside0.mk y1_; clear hr_ hr2_ gb_ y0_ y1_; have n0_ : Aside0 (HTab w_2 tb c0) := ⟨ht_⟩; have n1_ : Aside0 (w.grownBy w_2 (some tb)) := ⟨World.grownBy.trans (by first | exact HG.out | exact Hx.g_drew HG.out | exact Hx.g_drewN HG.out _) hg_⟩; have n2_ : Aside0 (Own w_2 gL N cL l2) := ⟨Own.grown OL.out hg_ (by simp only [ne_eq, Option.some.injEq]; have := ORD.out; omega)⟩; have n3_ : Aside0 (Own w_2 gM N cM m) := ⟨Own.grown OM.out hg_ (by simp only [ne_eq, Option.some.injEq]; have := ORD.out; omega)⟩; have n4_ : Aside0 (Lst w_2 tb (some ad) bs) := ⟨Lst.grown LS.out hg_⟩; have n5_ : Aside0 (Kd.R k104 104 w_2 w.heap.size (fun k_ => w.heap.size ≤ k_ ∧ k_ ≠ gL ∧ k_ ≠ gM ∧ k_ < wr.heap.size) u11 xs) := ⟨Kd.R_grown (row := some tb) HR.out hg_ (fun k_ hk_ h_ => by have := Option.some.inj h_; have := ORD.out; have := hk_.1; omega)⟩; have n6_ : Aside0 (wr.heap.size ≤ w_2.heap.size) := ⟨Nat.le_trans SZ.out hg_.size⟩; have m0_ : Aside0 (w_2.heap[g2]? = some (.cells C2 3 (0, 0))) := ⟨R2_⟩; (try clear HT); (try clear HG); (try clear OL); (try clear OM); (try clear LS); (try clear HR); (try clear SZ); have HT := n0_; have HG := n1_; have OL := n2_; have OM := n3_; have LS := n4_; have HR := n5_; have SZ := n6_; have R2 := m0_; clear n0_ n1_ n2_ n3_ n4_ n5_ n6_ m0_; clear ht_ hg_ R2_; have y0_ : w_2.cell? ⟨g2, 0, none⟩ = some (.int .i64 (h : Int)) := (blk_cell R2.out 0).trans Y0.out; have y1_ : w_2.cell? ⟨g2, 1, none⟩ = some (.int .i64 f) := (blk_cell R2.out 1).trans Y1.out; obtain ⟨cm_, dm_⟩ := Own.look OM.out (i := h) HHN.out; rw [← HXM.out] at cm_))
      go_quiet (fail)
      (try simp only [wx64])
      clear y0_ y1_ cm_ dm_
      obtain ⟨w_3, hwq⟩ : ∃ W, W = w_2.drewN nq := ⟨_, rfl⟩
      rw [← hwq]
      have hb_ : Below w_2.heap.size w_2 w_3 := by rw [hwq]; exact pw_below_drewN (Below.refl _ _) _
      have n0_ : Aside0 (HTab w_3 tb c0) := ⟨HTab.below (w := _) (by exact HT.out) hb_⟩
      have n1_ : Aside0 (w.grownBy w_3 (some tb)) := ⟨Hx.g_below (by first | exact HG.out | exact Hx.g_drew HG.out | exact Hx.g_drewN HG.out _) hb_⟩
      have n2_ : Aside0 (Own w_3 gL N cL l2) := ⟨Own.below (w := _) (by exact OL.out) hb_⟩
      have n3_ : Aside0 (Own w_3 gM N cM m) := ⟨Own.below (w := _) (by exact OM.out) hb_⟩
      have n4_ : Aside0 (Lst w_3 tb (some ad) bs) := ⟨Lst.below (w := _) (by exact LS.out) hb_⟩
      have n5_ : Aside0 (Kd.R k104 104 w_3 w.heap.size (fun k_ => w.heap.size ≤ k_ ∧ k_ ≠ gL ∧ k_ ≠ gM ∧ k_ < wr.heap.size) u11 xs) := ⟨Kd.R_below HR.out hb_⟩
      have n6_ : Aside0 (wr.heap.size ≤ w_3.heap.size) := ⟨Nat.le_trans SZ.out hb_.size⟩
      have n7_ : Aside0 (w_3.heap[g2]? = some (.cells C2 3 (0, 0))) := ⟨Hx.b_below hb_ R2.out⟩
      (try clear HT)
      (try clear HG)
      (try clear OL)
      (try clear OM)
      (try clear LS)
      (try clear HR)
      (try clear SZ)
      (try clear R2)
      have HT := n0_
      have HG := n1_
      have OL := n2_
      have OM := n3_
      have LS := n4_
      have HR := n5_
      have SZ := n6_
      have R2 := n7_
      clear n0_ n1_ n2_ n3_ n4_ n5_ n6_ n7_
      clear hb_ hwq
      obtain ⟨ad2, ead, ib_⟩ := Lst.look LS.out HLT.out.1
      cases ead
      rw [← HBB.out] at ib_
      have hcb2 : decide (fl > b) = br := hcb
      go_upto_region 9 with (first | ((with_reducible refine gate_builtin (b := .append) (xs := #[.tmp 49, .tmp 54]) rfl ?_); at_builtin; refine Kd.R_append k104 (w0 := w_3) (w.heap.size) rfl (.tmp 49) (.tmp 54) 59 104 (.agg #[(.int .i64 0), (.int .i64 0), (.bool false)]) 24 rfl Try.underlying59 info104 rfl (by decide) (by omega) u11 xs ((⟨(h : Int), fl, br⟩ : S104)) [.int .i64 (h : Int), .int .i64 fl, .bool br] (fun k_ => w.heap.size ≤ k_ ∧ k_ ≠ gL ∧ k_ ≠ gM) (fun _ => False) rfl rfl ?aP (fun _ hk_ => hk_.elim) ?aF ?aO ?aB ?aS ?aL ?_; (case aP => exact k104_mkM _ _ _ ((⟨(h : Int), fl, br⟩ : S104))); (case aB => exact Below.refl _ _); (case aF => exact (fun k_ hk_ => by have := ORD.out; have := HT.out.lt; have := HG.out.size; have := Own.lt OL.out HN0.out; have := Own.lt OM.out HN0.out; have := SZ.out; have := blk_lt R2.out; show w.heap.size ≤ k_ ∧ k_ ≠ gL ∧ k_ ≠ gM; omega)); (case aO => exact Kd.R_mono HR.out (fun k_ hk_ => ⟨hk_.1, hk_.2.1, hk_.2.2.1⟩)); (case aS => exact (by have := HT.out.lt; have := HG.out.size; have := Own.lt OL.out HN0.out; have := Own.lt OM.out HN0.out; have := SZ.out; have := blk_lt R2.out; have := ORD.out; omega)); (case aL => have := HXN.out; omega); intro v_ w_5 ho_ hb_ hg_ hat_; rw [← Nzs.out] at ho_; have n0_ : Aside0 (HTab w_5 tb c0) := ⟨HTab.grown HT.out hg_ (fun h_ => by have h2_ : w.heap.size ≤ tb ∧ tb ≠ gL ∧ tb ≠ gM ∧ tb < wr.heap.size := HR.out.1 _ h_.symm; have := ORD.out; omega)⟩; have n1_ : Aside0 (w.grownBy w_5 (some tb)) := ⟨Hx.g_append (by first | exact HG.out | exact Hx.g_drew HG.out | exact Hx.g_drewN HG.out _) hg_ (fun k_ h_ => by have h2_ : w.heap.size ≤ k_ ∧ k_ ≠ gL ∧ k_ ≠ gM ∧ k_ < wr.heap.size := HR.out.1 _ h_; have := ORD.out; omega)⟩; have n2_ : Aside0 (Own w_5 gL N cL l2) := ⟨Own.grown OL.out hg_ (fun h_ => by have h2_ : w.heap.size ≤ gL ∧ gL ≠ gL ∧ gL ≠ gM ∧ gL < wr.heap.size := HR.out.1 _ h_.symm; have := ORD.out; omega)⟩; have n3_ : Aside0 (Own w_5 gM N cM m) := ⟨Own.grown OM.out hg_ (fun h_ => by have h2_ : w.heap.size ≤ gM ∧ gM ≠ gL ∧ gM ≠ gM ∧ gM < wr.heap.size := HR.out.1 _ h_.symm; have := ORD.out; omega)⟩; have n4_ : Aside0 (Lst w_5 tb (some ad) bs) := ⟨Lst.app LS.out (n := w.heap.size) (fun ad_ h_ => by injection h_ with h2_; rw [← h2_]; exact HAL.out) hg_ (fun k_ h_ => by have h2_ : w.heap.size ≤ k_ := (HR.out.1 _ h_).1; omega)⟩; have n5_ : Aside0 (wr.heap.size ≤ w_5.heap.size) := ⟨Nat.le_trans SZ.out hg_.size⟩; have n6_ : Aside0 (w_5.heap[g2]? = some (.cells C2 3 (0, 0))) := ⟨Hx.b_grown hg_ R2.out (fun h_ => by have h2_ : w.heap.size ≤ g2 ∧ g2 ≠ gL ∧ g2 ≠ gM ∧ g2 < wr.heap.size := HR.out.1 _ h_.symm; have := ORD.out; omega)⟩; have m0_ : Aside0 (Kd.R k104 104 w_5 w.heap.size (fun k_ => w.heap.size ≤ k_ ∧ k_ ≠ gL ∧ k_ ≠ gM) v_ zs) := ⟨ho_⟩; (try clear HT); (try clear HG); (try clear OL); (try clear OM); (try clear LS); (try clear SZ); (try clear R2); (try clear HR); have HT := n0_; have HG := n1_; have OL := n2_; have OM := n3_; have LS := n4_; have SZ := n5_; have R2 := n6_; have HR := m0_; clear n0_ n1_ n2_ n3_ n4_ n5_ n6_ m0_; clear ho_ hb_ hg_ hat_))
      have y1_ : w_5.cell? ⟨g2, 1, none⟩ = some (.int .i64 f) := (blk_cell R2.out 1).trans Y1.out
      obtain ⟨cl_, dl_⟩ := Own.look OL.out (i := h) HHN.out
      rw [← HXL.out] at cl_
      cases br with
      | true =>
        rw [HNXT.out, HLOT.out] at HNX HL2
        rw [HNXT.out] at HMS2
        go_wp2_with (first | ((with_reducible refine gate_store (t := 3) (p := 65) rfl ?_); refine store_event (t := 3) (p := 65) (v := ?vo_w8) (w1 := ((w_5).setCell ⟨gL, h, none⟩ (.int .i64 (f - 1)))) ?hg ?ho ?hn ?hr ?_; (case ho => rfl); (case hg => rfl); (case hn => rfl); (case hr => first | (go_simp; done) | (go_simp; rfl)); intro w_8 hw_; have n0_ : Aside0 (HTab w_8 tb c0) := ⟨by rw [hw_]; exact HTab.far HT.out (show tb ≠ gL by have := ORD.out; omega)⟩; have n1_ : Aside0 (w.grownBy w_8 (some tb)) := ⟨by rw [hw_]; exact Hx.g_set HG.out (by have := ORD.out; omega)⟩; have n2_ : Aside0 (Own w_8 gL N cL (l2.set h (f - 1))) := ⟨by rw [hw_]; exact Own.put OL.out h _⟩; have n3_ : Aside0 (Own w_8 gM N cM m) := ⟨by rw [hw_]; exact Own.far OM.out (show gM ≠ gL by have := ORD.out; omega)⟩; have n4_ : Aside0 (Lst w_8 tb (some ad) bs) := ⟨by rw [hw_]; exact Lst.far LS.out (show ad.block ≠ gL by have := ORD.out; have := HAL.out; omega)⟩; have n5_ : Aside0 (wr.heap.size ≤ w_8.heap.size) := ⟨by rw [hw_]; exact Hx.size_set SZ.out⟩; have n6_ : Aside0 (Kd.R k104 104 w_8 w.heap.size (fun k_ => w.heap.size ≤ k_ ∧ k_ ≠ gL ∧ k_ ≠ gM) v_ zs) := ⟨by rw [hw_]; exact Kd.R_far HR.out (fun k_ hk_ => show k_ ≠ gL by first | exact hk_.2.1 | exact hk_.2.2 | exact hk_.2.2.1) _⟩; (try clear HT); (try clear HG); (try clear OL); (try clear OM); (try clear LS); (try clear SZ); (try clear HR); have HT := n0_; have HG := n1_; have OL := n2_; have OM := n3_; have LS := n4_; have SZ := n5_; have HR := n6_; clear n0_ n1_ n2_ n3_ n4_ n5_ n6_; clear hw_))
        go_roundg k1
        case measure => omega
        case rel => exact ⟨e' - 1, l2.set h (f - 1), m, zs, rfl, ⟨⟨HNX.out.1, HMS2.out, HZL.out, lset_good HGL.out h (by have := HLT.out; omega), by rw [List.length_set]; exact HL2N.out, HMN.out⟩⟩, HL2, HR, OL, OM, HT, HG, LS⟩
      | false =>
        rw [HNXF.out, HLOF.out] at HNX HL2
        rw [HNXF.out] at HMS2
        go_upto_region 12 with fail
        refine start_ (n := 10) (S := fun w' => w'.cell? ⟨gL, h, none⟩ = some (.int .i64 xl) ∧ w'.cell? ⟨g2, 1, none⟩ = some (.int .i64 f)) (ds := [9]) #[false, false, false, false, false, false, false, false, false, false] (by kernel_rfl) rfl rfl ⟨cl_, y1_⟩ (fun hHeld => ?_)
        refine pure_ (i := 0) (N := some 66) (v := ?_) (a' := ?_) #[true, false, false, false, false, false, false, false, false, false] rfl rfl (by kernel_rfl) (fun _ _ _ h => h) (Or.inl ⟨by rfl, ?_⟩) ?_ ?_
        rotate_left
        · intro w'
          go_simp
          with_reducible rfl
        rotate_left
        · simp only [Act.put, List.setIfInBounds_toArray, List.set_cons_zero, List.set_cons_succ, i64_w, i32_w]
          rfl
        refine pure_ (i := 1) (N := some 67) (v := ?_) (a' := ?_) #[true, true, false, false, false, false, false, false, false, false] rfl rfl (by kernel_rfl) (fun _ _ _ h => h) (Or.inl ⟨by rfl, ?_⟩) ?_ ?_
        rotate_left
        · intro w'
          go_simp
          with_reducible rfl
        rotate_left
        · simp only [Act.put, List.setIfInBounds_toArray, List.set_cons_zero, List.set_cons_succ, i64_w, i32_w]
          rfl
        refine pure_ (i := 2) (N := some 68) (v := ?_) (a' := ?_) #[true, true, true, false, false, false, false, false, false, false] rfl rfl (by kernel_rfl) (fun _ _ _ h => h) (Or.inl ⟨by rfl, ?_⟩) ?_ ?_
        rotate_left
        · intro w'
          go_simp
          with_reducible rfl
        rotate_left
        · simp only [Act.put, List.setIfInBounds_toArray, List.set_cons_zero, List.set_cons_succ, i64_w, i32_w]
          rfl
        refine pure_ (i := 4) (N := some 70) (v := ?_) (a' := ?_) #[true, true, true, false, true, false, false, false, false, false] rfl rfl (by kernel_rfl) (fun _ _ _ h => h) (Or.inl ⟨by rfl, ?_⟩) ?_ ?_
        rotate_left
        · intro w'
          go_simp
          with_reducible rfl
        rotate_left
        · simp only [Act.put, List.setIfInBounds_toArray, List.set_cons_zero, List.set_cons_succ, i64_w, i32_w]
          rfl
        refine pure_ (i := 5) (N := some 71) (v := ?_) (a' := ?_) #[true, true, true, false, true, true, false, false, false, false] rfl rfl (by kernel_rfl) (fun _ _ _ h => h) (Or.inl ⟨by rfl, ?_⟩) ?_ ?_
        rotate_left
        · intro w'
          go_simp
          with_reducible rfl
        rotate_left
        · simp only [Act.put, List.setIfInBounds_toArray, List.set_cons_zero, List.set_cons_succ, i64_w, i32_w]
          rfl
        refine take_ (i := 3) (N := some 69) (v := ?_) (a' := ?_) #[true, true, true, true, true, true, false, false, false, false] rfl rfl (by kernel_rfl) (fun _ _ _ h => h) (Or.inl ⟨by rfl, ?_⟩) hHeld ?_ ?_
        rotate_left
        · rintro w' ⟨s0, s1⟩
          go_simp
          with_reducible rfl
        rotate_left
        · simp only [Act.put, List.setIfInBounds_toArray, List.set_cons_zero, List.set_cons_succ, i64_w, i32_w]
          rfl
        refine take_ (i := 6) (N := some 72) (v := ?_) (a' := ?_) #[true, true, true, true, true, true, true, false, false, false] rfl rfl (by kernel_rfl) (fun _ _ _ h => h) (Or.inl ⟨by rfl, ?_⟩) hHeld ?_ ?_
        rotate_left
        · rintro w' ⟨s0, s1⟩
          go_simp
          with_reducible rfl
        rotate_left
        · simp only [Act.put, List.setIfInBounds_toArray, List.set_cons_zero, List.set_cons_succ, i64_w, i32_w]
          rfl
        refine pure_ (i := 7) (N := some 73) (v := ?_) (a' := ?_) #[true, true, true, true, true, true, true, true, false, false] rfl rfl (by kernel_rfl) (fun _ _ _ h => h) (Or.inl ⟨by rfl, ?_⟩) ?_ ?_
        rotate_left
        · intro w'
          go_simp
          with_reducible rfl
        rotate_left
        · simp only [Act.put, List.setIfInBounds_toArray, List.set_cons_zero, List.set_cons_succ, i64_w, i32_w]
          rfl
        refine pure_ (i := 8) (N := some 74) (v := ?_) (a' := ?_) #[true, true, true, true, true, true, true, true, true, false] rfl rfl (by kernel_rfl) (fun _ _ _ h => h) (Or.inl ⟨by rfl, ?_⟩) ?_ ?_
        rotate_left
        · intro w'
          go_simp
          with_reducible rfl
        rotate_left
        · simp only [Act.put, List.setIfInBounds_toArray, List.set_cons_zero, List.set_cons_succ, i64_w, i32_w]
          rfl
        refine last_ (i := 9) (N := none) #[true, true, true, true, true, true, true, true, true, true] rfl rfl (by kernel_rfl) (by decide) (fun K hK => ?_)
        refine skip_ (w1 := ?_) (by rfl) rfl ?_ ?_
        rotate_left
        · go_simp
          rfl
        refine hK.out _ _ ?_
        clear hK K
        refine done_ (by kernel_rfl) ?_
        have n0_ : Aside0 (HTab ((w_5.setCell ⟨gL, h, none⟩ (.int .i64 (xl - f))).drew) tb c0) := ⟨HTab.below (HTab.far HT.out (show tb ≠ gL by have := ORD.out; omega)) (below_drew1 (Below.refl _ _))⟩
        have n1_ : Aside0 (w.grownBy ((w_5.setCell ⟨gL, h, none⟩ (.int .i64 (xl - f))).drew) (some tb)) := ⟨Hx.g_drew (Hx.g_set HG.out (by have := ORD.out; omega))⟩
        have n2_ : Aside0 (Own ((w_5.setCell ⟨gL, h, none⟩ (.int .i64 (xl - f))).drew) gL N cL (l2.set h (xl - f))) := ⟨Own.below (Own.put OL.out h _) (below_drew1 (Below.refl _ _))⟩
        have n3_ : Aside0 (Own ((w_5.setCell ⟨gL, h, none⟩ (.int .i64 (xl - f))).drew) gM N cM m) := ⟨Own.below (Own.far OM.out (show gM ≠ gL by have := ORD.out; omega)) (below_drew1 (Below.refl _ _))⟩
        have n4_ : Aside0 (Lst ((w_5.setCell ⟨gL, h, none⟩ (.int .i64 (xl - f))).drew) tb (some ad) bs) := ⟨Lst.below (Lst.far LS.out (show ad.block ≠ gL by have := ORD.out; have := HAL.out; omega)) (below_drew1 (Below.refl _ _))⟩
        have n5_ : Aside0 (wr.heap.size ≤ ((w_5.setCell ⟨gL, h, none⟩ (.int .i64 (xl - f))).drew).heap.size) := ⟨Hx.size_set SZ.out⟩
        have n6_ : Aside0 (Kd.R k104 104 ((w_5.setCell ⟨gL, h, none⟩ (.int .i64 (xl - f))).drew) w.heap.size (fun k_ => w.heap.size ≤ k_ ∧ k_ ≠ gL ∧ k_ ≠ gM) v_ zs) := ⟨Kd.R_below (Kd.R_far HR.out (fun k_ hk_ => show k_ ≠ gL by first | exact hk_.2.1 | exact hk_.2.2 | exact hk_.2.2.1) _) (below_drew1 (Below.refl _ _))⟩
        (try clear HT)
        (try clear HG)
        (try clear OL)
        (try clear OM)
        (try clear LS)
        (try clear SZ)
        (try clear HR)
        generalize (w_5.setCell ⟨gL, h, none⟩ (.int .i64 (xl - f))).drew = w_18 at n0_ n1_ n2_ n3_ n4_ n5_ n6_ ⊢
        have HT := n0_
        have HG := n1_
        have OL := n2_
        have OM := n3_
        have LS := n4_
        have SZ := n5_
        have HR := n6_
        clear n0_ n1_ n2_ n3_ n4_ n5_ n6_
        clear cl_ dl_ y1_
        obtain ⟨cn_, dn_⟩ := Own.look OM.out (i := h) HHN.out
        go_wp2_with (first | ((with_reducible refine gate_store (t := 3) (p := 78) rfl ?_); refine store_event (t := 3) (p := 78) (v := ?vo_w19) (w1 := ((w_18).setCell ⟨gM, h, none⟩ (.int .i64 fl))) ?hg ?ho ?hn ?hr ?_; (case ho => rfl); (case hg => rfl); (case hn => rfl); (case hr => first | (go_simp; done) | (go_simp; rfl)); intro w_19 hw_; have n0_ : Aside0 (HTab w_19 tb c0) := ⟨by rw [hw_]; exact HTab.far HT.out (show tb ≠ gM by have := ORD.out; omega)⟩; have n1_ : Aside0 (w.grownBy w_19 (some tb)) := ⟨by rw [hw_]; exact Hx.g_set HG.out (by have := ORD.out; omega)⟩; have n2_ : Aside0 (Own w_19 gL N cL (l2.set h (xl - f))) := ⟨by rw [hw_]; exact Own.far OL.out (show gL ≠ gM by have := ORD.out; omega)⟩; have n3_ : Aside0 (Own w_19 gM N cM (m.set h (fl))) := ⟨by rw [hw_]; exact Own.put OM.out h _⟩; have n4_ : Aside0 (Lst w_19 tb (some ad) bs) := ⟨by rw [hw_]; exact Lst.far LS.out (show ad.block ≠ gM by have := ORD.out; have := HAL.out; omega)⟩; have n5_ : Aside0 (wr.heap.size ≤ w_19.heap.size) := ⟨by rw [hw_]; exact Hx.size_set SZ.out⟩; have n6_ : Aside0 (Kd.R k104 104 w_19 w.heap.size (fun k_ => w.heap.size ≤ k_ ∧ k_ ≠ gL ∧ k_ ≠ gM) v_ zs) := ⟨by rw [hw_]; exact Kd.R_far HR.out (fun k_ hk_ => show k_ ≠ gM by first | exact hk_.2.1 | exact hk_.2.2 | exact hk_.2.2.1) _⟩; (try clear HT); (try clear HG); (try clear OL); (try clear OM); (try clear LS); (try clear SZ); (try clear HR); have HT := n0_; have HG := n1_; have OL := n2_; have OM := n3_; have LS := n4_; have SZ := n5_; have HR := n6_; clear n0_ n1_ n2_ n3_ n4_ n5_ n6_; clear hw_))
        go_roundg k1
        case measure => omega
        case rel => exact ⟨e', l2.set h (xl - f), m.set h fl, zs, rfl, ⟨⟨HNX.out.1, HMS2.out, HZL.out, lset_good HGL.out h (by have := HLT.out; omega), by rw [List.length_set]; exact HL2N.out, by rw [List.length_set]; exact HMN.out⟩⟩, HL2, HR, OL, OM, HT, HG, LS⟩


end Go.Proofs.Ytoomacelbhojhaa.U
