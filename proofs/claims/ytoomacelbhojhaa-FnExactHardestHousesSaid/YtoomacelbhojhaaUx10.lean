/- Plain Lean functions with the answers of Go functions, and proofs of it: printed by a program of this session (pr.py) over the kit's print, with hand-written parts. -/
import Derived.Test.YtoomacelbhojhaaUx0
import Derived.Test.YtoomacelbhojhaaUx1
import Derived.Test.YtoomacelbhojhaaUx2
import Derived.Test.YtoomacelbhojhaaUx3
import Derived.Test.YtoomacelbhojhaaUx4
import Derived.Test.YtoomacelbhojhaaUx5
import Derived.Test.YtoomacelbhojhaaUx6
import Derived.Test.YtoomacelbhojhaaUx7
import Derived.Test.YtoomacelbhojhaaUx9
namespace Go.Proofs.Ytoomacelbhojhaa.U
open Go.RowKit Go.Proofs.YtoomacelbhojhaaW.PrintWords Go.Proofs.YtoomacelbhojhaaW.PrintLast Go.Proofs.YtoomacelbhojhaaW.PrintMore
attribute [local go_sem] max2_int min2_int max_two min_two max_three min_three max_four min_four   -- for this text's walks alone
set_option linter.unusedVariables false
set_option linter.unusedSimpArgs false

-- FOR spec.hoAll
-- CALLS impl.allBreaks ; spec.l1Own
-- USES kd [][]int
-- USES info int
-- USES info []int
section
open Kd
variable {P : Program} {ops : Array Oper} {rest : List Oper} {o : Oper} {a : Act} {Q : Exit → Act → World → Prop} {α : Type}
theorem tag_reads {d : Kd α} {e : Nat} {W : World} {base : Nat} {ok : Nat → Prop} {A : Option Addr} {m c : Nat} {g F : Nat → Nat} {n0 : Nat} {ys : List α} (h : (Kd.tag g d).R e W base ok (.slice A m c) ys.zipIdx) (hF : ∀ k, ok k → F k = n0 + g k) (hs0 : 0 < d.sz) :
    ReadsRow (fun q cs => (Kd.tag F d).M W base ok q cs) d.sz W A m (ys.zipIdx n0) := by
  have h2 := Kd.R_reads' h
  have hlen : ys.length = m := by have := h2.1; rw [List.length_zipIdx] at this; omega
  refine ⟨by rw [List.length_zipIdx]; exact hlen, by have h3 := h2.2.2.2.1; rw [List.length_zipIdx] at h3; omega, fun hp => ?_⟩
  obtain ⟨ad, rfl, _⟩ := h2.2.2.2.2 (by rw [List.length_zipIdx]; omega)
  refine ⟨ad, rfl, fun j p hj => ?_⟩
  rw [List.getElem?_zipIdx] at hj
  cases hy : ys[j]? with
  | none => rw [hy] at hj; cases hj
  | some y =>
    rw [hy] at hj
    obtain rfl := Option.some.inj hj
    have hlt : j < ys.length := (List.getElem?_eq_some_iff.1 hy).1
    obtain ⟨cs, hc1, hM, hcc⟩ := Kd.R_getA h ((y, 0) : α × Nat) (j : Int) (by omega) (by omega)
    have hz : ys.zipIdx.getD (j : Int).toNat (y, 0) = (y, j) := by
      rw [Int.toNat_natCast, List.getD_eq_getElem?_getD, List.getElem?_zipIdx, hy]
      simp
    rw [hz] at hM
    refine ⟨cs, hc1, d.M_mono (fun k hk => ⟨hk.1.1, ?_⟩) hM, fun i u hu => ?_⟩
    · show F k = n0 + j
      rw [hF k hk.1.1, hk.2]
    · have h3 := hcc i u hu
      rw [Int.toNat_natCast] at h3
      exact h3
theorem S_append_rows (d : Kd α) {w0 W : World} (base : Nat) (hgd : o.guard = none) (s x : Operand) (t e : TypeId) (z : Value) (bytes : Nat)
    (ho : o.op = .call { callee := .builtin .append, args := #[s, x], argTypes := #[t, t] })
    (ht : P.underlying t = some (.slice e)) (hinfo : (P.info? e).map (fun i => (i.zero, i.size, i.bytes)) = some (some z, d.sz, bytes)) (hz : z.cells.size = d.sz) (hs0 : 0 < d.sz) (hb0 : 0 < bytes)
    (v : Value) (xs ys : List α) (A : Option Addr) (m c : Nat) (ok : Nat → Prop) (C0 : Nat) (hs : a.eval s = v) (hx : a.eval x = .slice A m c)
    (HO : Kd.S d e W base (fun k => ok k ∧ k < C0) v xs) (HY : Kd.S d e W base (fun k => C0 ≤ k) (.slice A m c) ys) (hok : ∀ k, C0 ≤ k → ok k) (hC : C0 ≤ W.heap.size)
    (HB : Below base w0 W) (hbase : base ≤ W.heap.size) (hl : (xs.length + m) * bytes ≤ 140737488355328)
    (h : ∀ v1 w1, Kd.S d e w1 base ok v1 (xs ++ ys) → Below base w0 w1 → W.grownBy w1 v.ownBlock → (v1.ownBlock = v.ownBlock ∨ ∃ b, v1.ownBlock = some b ∧ W.heap.size ≤ b) → wpList P ops Q rest (a.put o.dst v1) w1) :
    wpList P ops Q (o :: rest) a W := by
  obtain ⟨f, hf⟩ := HO
  obtain ⟨g, hg⟩ := HY
  have H1 : (Kd.tag (fun k => if k < C0 then f k else xs.length + g k) d).R e W base ok v xs.zipIdx := by
    obtain ⟨h0, inner, hown, hr⟩ := hf
    refine ⟨fun k hk => (h0 k hk).1, inner, hown, hr.imp_ (fun p cs hp => d.M_mono (fun k hk => ⟨⟨hk.1.1.1, hk.1.2⟩, ?_⟩) hp)⟩
    show (if k < C0 then f k else xs.length + g k) = p.2
    rw [if_pos hk.1.1.2]
    exact hk.2
  have h0v : ∀ k, v.ownBlock = some k → k < C0 := fun k hk => (hf.1 k hk).2
  have HR := tag_reads (F := fun k => if k < C0 then f k else xs.length + g k) (n0 := xs.length) hg (fun k hk => if_neg (by omega)) hs0
  refine Kd.R_append_rows (Kd.tag (fun k => if k < C0 then f k else xs.length + g k) d) (w0 := w0) base hgd s x t e z bytes ho ht hinfo hz hs0 hb0 v xs.zipIdx (ys.zipIdx xs.length) A m c ok (fun k => C0 ≤ k) hs hx H1 HR (fun _ _ h => h) (fun k hk => ⟨hok k hk, fun he => by have := h0v k he.symm; omega⟩) (fun k hk => hok k (by omega)) HB hbase (by rw [List.length_zipIdx]; exact hl) ?_
  intro v1 w1 hr
  have hz2 : xs.zipIdx ++ ys.zipIdx xs.length = (xs ++ ys).zipIdx := by rw [List.zipIdx_append]; simp
  rw [hz2] at hr
  exact h v1 w1 ⟨_, hr⟩
end

theorem rep_row {W : World} {base : Nat} {ok : Nat → Prop} {v : Value} {b : List Int} (h : Kd.R (Kd.int .i64) 3 W base ok v b) : ∀ (j : Nat) (x : List Int), ([b] : List (List Int))[j]? = some x → (Kd.slice 3 (Kd.int .i64)).M W base (fun k => j = 0 ∧ some k = v.ownBlock) x ((([v] : List Value).drop (j * (Kd.slice 3 (Kd.int .i64)).sz)).take (Kd.slice 3 (Kd.int .i64)).sz) := by
  intro j x hx
  cases j with
  | zero =>
    have h0 : b = x := by simpa using hx
    subst h0
    exact ⟨_, rfl, Kd.R_mono (Kd.R_tight rfl h) (fun k hk => ⟨rfl, hk⟩)⟩
  | succ j => simp at hx
theorem flat_foldB (l : List Int) (b : List Int) : ∀ (qs : List Nat), qs.flatMap (fun q : Nat => l.foldl stepB [b ++ [(q : Int)]]) = l.foldl stepB (qs.map fun i : Nat => b ++ [(i : Int)]) := by
  intro qs
  induction qs with
  | nil => rw [List.map_nil, foldB_nil]; rfl
  | cons q qs ih2 => rw [List.flatMap_cons, List.map_cons, show (b ++ [(q : Int)]) :: qs.map (fun i : Nat => b ++ [(i : Int)]) = [b ++ [(q : Int)]] ++ qs.map (fun i : Nat => b ++ [(i : Int)]) from rfl, foldB_app, ih2]
def HoAllOk (l : List Int) (A : Option Addr) (c base : Nat) (b : List Int) : Prop := ∀ (A2 : Option Addr) (c2 : Nat) (okb : Nat → Prop) (W : World), base ≤ W.heap.size → Kd.C (Kd.int .i64) W A l.length l → Kd.R (Kd.int .i64) 3 W base okb (.slice A2 b.length c2) b →
    Calls Try.prog 93 #[.slice A l.length c, .slice A2 b.length c2] W fun e_ w' => ∃ v_ : Value, e_ = .returned v_ ∧ Kd.S (Kd.slice 3 (Kd.int .i64)) 46 w' base (fun k_ => some k_ = (Value.slice A2 b.length c2).ownBlock ∨ W.heap.size ≤ k_) v_ ((l.drop b.length).foldl stepB [b]) ∧ Below W.heap.size W w'
set_option maxHeartbeats 80000000 in
set_option maxRecDepth 100000 in
theorem hoAll0 (l : List Int) (A : Option Addr) (c base : Nat) (b : List Int) (hb : b.length = l.length) : HoAllOk l A c base b := by
  intro A2 c2 okb W hbs hC hR
  have RB := Aside0.mk hR
  have HBS := Aside0.mk hbs
  have e1 : ((b.length : Int) == (l.length : Int)) = true := by rw [hb]; simp
  have e2 : (b.length == l.length) = true := by simpa using hb
  have hd : (l.drop b.length).foldl stepB [b] = [b] := by rw [List.drop_of_length_le (by omega)]; rfl
  rw [hd]
  clear hR hC hbs hd hb
  go_enter Try.func93, Try.ntmps93
  go_wp2_with (first | ((with_reducible refine gate_dst (N := 13) rfl ?_); refine Kd.S_lits (Kd.slice 3 (Kd.int .i64)) base 46 ?hg (N := 13) ?hd (xs := [b]) (inner := [.slice A2 b.length c2]) (ok := fun k_ => some k_ = (Value.slice A2 b.length c2).ownBlock ∨ W.heap.size ≤ k_) (fun j_ k_ => j_ = 0 ∧ some k_ = (Value.slice A2 b.length c2).ownBlock) ?hr rfl (rep_row RB.out) (fun i_ j_ k_ h1_ h2_ => by rw [h1_.1, h2_.1]) (fun j_ k_ h_ => Or.inl h_.2) (Or.inr (Nat.le_refl _)) (Below.refl _ _) HBS.out (by simp) ?_; (case hd => rfl); (case hg => rfl); (case hr => first | (go_simp; done) | (go_simp; rfl)); intro v11_ w_b ho_ hb_ hg_ hn_; have OU0 := Aside0.mk ho_; have HB0 : Aside0 (Below W.heap.size W w_b) := ⟨Hx.bb_append (Below.refl _ _) hg_ (fun k_ h_ => by cases h_)⟩; clear hb_ ho_ hg_ hn_))
  go_ret
  exact ⟨_, rfl, OU0.out, HB0.out⟩
set_option maxHeartbeats 80000000 in
set_option maxRecDepth 100000 in
theorem hoAll1 (l : List Int) (hl : LGood l) (A : Option Addr) (c base : Nat) (hc : l.length ≤ c) (b : List Int) (hb : b.length < l.length) (ih : ∀ q : Nat, HoAllOk l A c base (b ++ [(q : Int)])) : HoAllOk l A c base b := by
  intro A2 c2 okb W hbs hC hR
  have RB := Aside0.mk hR
  have HBS := Aside0.mk hbs
  have HA := Aside0.mk hC
  have hcap := (Kd.R_reads' hR).2.1
  have hn := hl.2.2 l[b.length] (List.getElem_mem hb)
  obtain ⟨nn, hnn⟩ : ∃ n : Nat, l[b.length] = (n : Int) := ⟨l[b.length].toNat, by omega⟩
  have HN8 : Aside0 (nn ≤ 8) := ⟨by omega⟩
  have HBN : Aside0 (b.length + 1 ≤ 10 ∧ b.length ≤ 3) := ⟨by have := hl.2.1; omega⟩
  have e1 : ((b.length : Int) == (l.length : Int)) = false := by simp; omega
  have e2 : (b.length == l.length) = false := by simp; omega
  obtain ⟨F, hF⟩ : ∃ F : Nat → List (List Int), F = fun q : Nat => (l.drop (b.length + 1)).foldl stepB [b ++ [(q : Int)]] := ⟨_, rfl⟩
  obtain ⟨r, hr⟩ : ∃ r, r = (l.drop b.length).foldl stepB [b] := ⟨_, rfl⟩
  have HRF : Aside0 ([] ++ (List.range' 0 (nn + 1)).flatMap F = r) := ⟨by
    rw [hr, ← List.getElem_cons_drop hb, List.foldl_cons, rowB _ _ hn.1, hnn, Int.toNat_natCast, List.range_eq_range', hF]
    exact flat_foldB _ _ _⟩
  have HFL : Aside0 (r.length ≤ 1000) := ⟨by
    have h1 := foldB_len (l.drop b.length) [b] (fun x hx => hl.2.2 x (List.mem_of_mem_drop hx))
    have h2 : 9 ^ (l.drop b.length).length ≤ 9 ^ 3 := Nat.pow_le_pow_right (by omega) (by rw [List.length_drop]; have := hl.2.1; omega)
    have h3 : (9 : Nat) ^ 3 = 729 := by decide
    rw [hr]
    simp at h1 h2
    omega⟩
  have IH : Aside0 (∀ q : Nat, HoAllOk l A c base (b ++ [(q : Int)])) := ⟨ih⟩
  have HF := Aside0.mk hF
  have HOW : Aside0 (∀ Wd, Below W.heap.size W Wd → Calls Try.prog 126 #[.slice A2 b.length c2] Wd fun e w' => ∃ v0_ : Value, e = .returned (v0_) ∧ Kd.R (Kd.int .i64) 3 w' Wd.heap.size (fun _ => True) v0_ b ∧ Below Wd.heap.size Wd w') := ⟨fun Wd hW => spec_l1Own.calls A2 c2 b b Wd (Kd.R_reads' (Kd.R_below RB.out hW)).2.2 hcap (own_is (by have := hl.2.1; omega))⟩
  obtain ⟨ad, rfl, hx00⟩ := Kd.at_int hC (b.length : Int) (by omega) (by omega)
  have HIX : Aside0 (∀ Wd, Below W.heap.size W Wd → Wd.cell? (ad.add b.length) = some (.int .i64 (nn : Int))) := ⟨fun Wd hW => by
    obtain ⟨adx, eax, ix_⟩ := Kd.at_int (Kd.C_below hC hW) (b.length : Int) (by omega) (by omega)
    cases eax
    rw [rdB l hb, hnn, Int.toNat_natCast] at ix_
    exact ix_⟩
  have pb : (0 : Int) ≤ (b.length : Int) := by omega
  have qb : (b.length : Int) < (l.length : Int) := by omega
  replace pb := eq_true pb
  replace qb := eq_true qb
  rw [← hr]
  clear hR hC hbs hb hn hnn hF hr ih hcap hx00 hl hc
  go_enter Try.func93, Try.ntmps93
  go_wp2
  go_loopg [5, 6] (nn + 1) (fun n v5 v6 w' => ∃ (j : Nat) (xs : List (List Int)), v6 = .int .i64 (j : Int) ∧ Aside0 (j + n = nn + 1) ∧ Aside0 (xs ++ (List.range' j n).flatMap F = r) ∧ Aside0 (Kd.S (Kd.slice 3 (Kd.int .i64)) 46 w' base (fun k_ => W.heap.size ≤ k_) v5 xs) ∧ Aside0 (Below W.heap.size W w'))
  case atStart => exact ⟨0, [], rfl, ⟨by omega⟩, HRF, ⟨Kd.S_nil _ _ _ _ _⟩, ⟨Below.refl _ _⟩⟩
  case round =>
    clear HRF
    obtain ⟨j, xs, rfl, HI, HJ, AC', HB⟩ := hrel
    have ix_ := HIX.out wr HB.out
    by_cases hj : j < nn + 1
    · have d2 : decide ((j : Int) ≤ (nn : Int)) = true := decide_eq_true (by omega)
      have d2n : decide (j ≤ nn) = true := decide_eq_true (by omega)
      obtain ⟨k2, rfl⟩ : ∃ k2, gk = k2 + 1 := ⟨gk - 1, by have := HI.out; omega⟩
      have wj : IntKind.i64.wrap ((j : Int) + 1) = ((j + 1 : Nat) : Int) := by rw [Hw.wrap_w (by omega) (by have := HN8.out; omega)]; omega
      obtain ⟨C0, hC0⟩ : ∃ C0, C0 = wr.heap.size := ⟨_, rfl⟩
      have HC0 := Aside0.mk hC0
      have HCB : Aside0 (W.heap.size ≤ C0) := ⟨by rw [hC0]; exact HB.out.size⟩
      have AC : Aside0 (Kd.S (Kd.slice 3 (Kd.int .i64)) 46 wr base (fun k_ => W.heap.size ≤ k_ ∧ k_ < C0) u5 xs) := ⟨Kd.S_mono (Kd.S_bound AC'.out) (fun k_ hk_ => ⟨hk_.1, by have h_ := hk_.2.2.1; omega⟩)⟩
      obtain ⟨row2, hrow2⟩ : ∃ row2 : List Int, row2 = b ++ [(j : Int)] := ⟨_, rfl⟩
      have Nrow2 := Aside0.mk hrow2
      have IHJ : Aside0 (HoAllOk l (some ad) c base row2) := ⟨by rw [hrow2]; exact IH.out j⟩
      have HFJ : Aside0 ((l.drop row2.length).foldl stepB [row2] = F j) := ⟨by rw [HF.out, hrow2, List.length_append]; rfl⟩
      obtain ⟨zs, hzs⟩ : ∃ zs : List (List Int), zs = xs ++ F j := ⟨_, rfl⟩
      have Nzs := Aside0.mk hzs
      have HJ3 : Aside0 (zs ++ (List.range' (j + 1) k2).flatMap F = r) := ⟨by
        have h_ := HJ.out
        rw [List.range'_succ, List.flatMap_cons] at h_
        rw [← h_, hzs, List.append_assoc]⟩
      have HXN : Aside0 (xs.length + (F j).length ≤ 100000) := ⟨by
        have h_ := congrArg List.length HJ3.out
        have h2_ := HFL.out
        rw [hzs] at h_
        simp only [List.length_append] at h_
        omega⟩
      have HI3 : Aside0 (j + 1 + k2 = nn + 1) := ⟨by have := HI.out; omega⟩
      clear AC' hC0 hrow2 hzs HJ hj HI
      go_wp2_with (first | ((with_reducible refine gate_callee (f := 126) rfl ?_); refine goesL_ (some 26) rfl rfl Try.func126 (by kernel_rfl) rfl #[.slice A2 b.length c2] rfl (by (try simp only [List.map_toArray, List.map_cons, List.map_nil]); first | done | rfl) ?_; refine (HOW.out wr HB.out).mono ?_; rintro e_ w_1 ⟨vc_, rfl, hr_, hb_⟩; refine ⟨_, rfl, ?_⟩; have n0_ : Aside0 (Below W.heap.size W w_1) := ⟨Hx.bb_below hb_ (by first | exact HB.out | exact below_drew1 HB.out | exact pw_below_drewN HB.out _)⟩; have n1_ : Aside0 (Kd.S (Kd.slice 3 (Kd.int .i64)) 46 w_1 base (fun k_ => W.heap.size ≤ k_ ∧ k_ < C0) u5 xs) := ⟨Kd.S_below AC.out hb_⟩; have m0_ : Aside0 (Kd.R (Kd.int .i64) 3 w_1 base (fun k_ => C0 ≤ k_) vc_ b) := ⟨Kd.R_mono (Kd.R_lower (Kd.R_bound hr_) (by have := HB.out.size; have := HBS.out; omega)) (fun k_ hk_ => by have h_ := hk_.2.1; rw [HC0.out]; exact h_)⟩; have m1_ : Aside0 (C0 ≤ w_1.heap.size) := ⟨by rw [HC0.out]; exact hb_.size⟩; (try clear HB); (try clear AC); have HB := n0_; have AC := n1_; have HL := m0_; have ZC := m1_; clear n0_ n1_ m0_ m1_; clear hr_ hb_) | ((with_reducible refine gate_builtin (b := .append) (xs := #[.tmp 26, .tmp 28]) rfl ?_); at_builtin; refine Kd.R_append (Kd.int .i64) (w0 := w_1) base rfl (.tmp 26) (.tmp 28) 46 3 (.int .i64 0) 8 rfl Try.underlying46 info3 rfl (by decide) (by omega) vc_ b (j : Int) [.int .i64 (j : Int)] (fun k_ => C0 ≤ k_) (fun _ => False) rfl rfl ?aP (fun _ hk_ => hk_.elim) ?aF ?aO (Below.refl _ _) ?aS ?aL ?_; (case aP => exact (show Kd.M (Kd.int .i64) _ _ _ (j : Int) [.int .i64 (j : Int)] from rfl)); (case aF => exact (fun k_ hk_ => by show C0 ≤ k_; have := ZC.out; omega)); (case aO => exact HL.out); (case aS => exact (by have := HB.out.size; have := HBS.out; omega)); (case aL => have := HBN.out; omega); intro v_ w_2 ho_ hb_ hg_ hat_; rw [← Nrow2.out] at ho_; have n0_ : Aside0 (Below W.heap.size W w_2) := ⟨Hx.bb_append HB.out hg_ (fun k_ h_ => by have h2_ : C0 ≤ k_ := HL.out.1 _ h_; have := HCB.out; omega)⟩; have n1_ : Aside0 (Kd.S (Kd.slice 3 (Kd.int .i64)) 46 w_2 base (fun k_ => W.heap.size ≤ k_ ∧ k_ < C0) u5 xs) := ⟨Kd.S_grown AC.out hg_ (fun k_ hk_ h_ => by have h2_ : C0 ≤ k_ := HL.out.1 _ h_.symm; have h3_ := hk_.2; omega)⟩; have n2_ : Aside0 (C0 ≤ w_2.heap.size) := ⟨Nat.le_trans ZC.out hg_.size⟩; have m0_ : Aside0 (Kd.R (Kd.int .i64) 3 w_2 base (fun k_ => C0 ≤ k_) v_ row2) := ⟨ho_⟩; (try clear HB); (try clear AC); (try clear ZC); clear HL; have HB := n0_; have AC := n1_; have ZC := n2_; have HL := m0_; clear n0_ n1_ n2_ m0_ ho_ hb_ hg_ hat_; obtain ⟨Ar_, cr_, er_⟩ := Kd.R_slice HL.out; subst er_) | ((with_reducible refine gate_callee (f := 93) rfl ?_); refine goesL_ (some 30) rfl rfl Try.func93 (by kernel_rfl) rfl #[.slice (some ad) l.length c, .slice Ar_ row2.length cr_] rfl (by (try simp only [List.map_toArray, List.map_cons, List.map_nil]); first | done | rfl) ?_; refine (IHJ.out Ar_ cr_ (fun k_ => C0 ≤ k_) w_2 (by have := HB.out.size; have := HBS.out; omega) (Kd.C_below HA.out HB.out) HL.out).mono ?_; rintro e_ w_3 ⟨v_, rfl, hr_, hb_⟩; refine ⟨_, rfl, ?_⟩; rw [HFJ.out] at hr_; obtain ⟨A30, c30, e30_⟩ := Kd.S_slice hr_; subst e30_; have n0_ : Aside0 (Below W.heap.size W w_3) := ⟨Hx.bb_below hb_ (by first | exact HB.out | exact below_drew1 HB.out | exact pw_below_drewN HB.out _)⟩; have n1_ : Aside0 (Kd.S (Kd.slice 3 (Kd.int .i64)) 46 w_3 base (fun k_ => W.heap.size ≤ k_ ∧ k_ < C0) u5 xs) := ⟨Kd.S_below AC.out hb_⟩; have n2_ : Aside0 (C0 ≤ w_3.heap.size) := ⟨Nat.le_trans ZC.out hb_.size⟩; have m0_ : Aside0 (Kd.S (Kd.slice 3 (Kd.int .i64)) 46 w_3 base (fun k_ => C0 ≤ k_) (.slice A30 (F j).length c30) (F j)) := ⟨Kd.S_below (Kd.S_mono hr_ (fun k_ hk_ => hk_.elim (fun h_ => HL.out.1 _ h_.symm) (fun h_ => by have := ZC.out; omega))) (Below.refl _ _)⟩; (try clear HB); (try clear AC); (try clear ZC); have HB := n0_; have AC := n1_; have ZC := n2_; have HY := m0_; clear n0_ n1_ n2_ m0_; clear hr_ hb_ HL) | ((with_reducible refine gate_builtin (b := .append) (xs := #[.tmp 23, .tmp 30]) rfl ?_); at_builtin; refine S_append_rows (Kd.slice 3 (Kd.int .i64)) (w0 := w_3) base rfl (.tmp 23) (.tmp 30) 30 46 (.slice none 0 0) 24 rfl Try.underlying30 info46 rfl (by decide) (by omega) u5 xs (F j) A30 (F j).length c30 (fun k_ => W.heap.size ≤ k_) C0 rfl rfl AC.out HY.out (fun k_ hk_ => by have := HCB.out; show W.heap.size ≤ k_; omega) ZC.out (Below.refl _ _) ?aS ?aL ?_; (case aS => exact (by have := HB.out.size; have := HBS.out; omega)); (case aL => have := HXN.out; omega); intro v_ w_4 ho_ hb_ hg_ hat_; rw [← Nzs.out] at ho_; have n0_ : Aside0 (Below W.heap.size W w_4) := ⟨Hx.bb_append HB.out hg_ (fun k_ h_ => ((Kd.S_R AC.out).1 _ h_).1)⟩; have m0_ : Aside0 (Kd.S (Kd.slice 3 (Kd.int .i64)) 46 w_4 base (fun k_ => W.heap.size ≤ k_) v_ zs) := ⟨ho_⟩; clear HB AC HY ZC; have HB := n0_; have AC := m0_; clear n0_ m0_ ho_ hb_ hg_ hat_))
      go_roundg k2
      case measure => omega
      case rel => exact ⟨j + 1, zs, rfl, HI3, HJ3, AC, HB⟩
    · have d2 : decide ((j : Int) ≤ (nn : Int)) = false := decide_eq_false (by omega)
      have d2n : decide (j ≤ nn) = false := decide_eq_false (by omega)
      have hgk : gk = 0 := by have := HI.out; omega
      have hxs : xs = r := by
        have h_ := HJ.out
        rw [hgk] at h_
        simpa using h_
      subst hxs
      clear hgk hj HI HJ
      go_wp2
      go_ret
      exact ⟨_, rfl, Kd.S_mono AC'.out (fun k_ hk_ => Or.inr hk_), HB.out⟩
theorem hoAll_ok (l : List Int) (hl : LGood l) (A : Option Addr) (c base : Nat) (hc : l.length ≤ c) : ∀ (m : Nat) (b : List Int), b.length + m = l.length → HoAllOk l A c base b
  | 0, b, h => hoAll0 l A c base b (by omega)
  | m + 1, b, h => hoAll1 l hl A c base hc b (by omega) (fun q => hoAll_ok l hl A c base hc m _ (by rw [List.length_append]; simp; omega))


-- FOR spec.HardestHouses
-- KIND rounds=0 making=1
-- CALLS impl.HardestHouses ; spec.hoAll ; spec.hoPlay ; spec.hoAsked ; spec.hoTable
-- USES kd [][]int
-- USES info []int
set_option maxHeartbeats 8000000 in
set_option maxRecDepth 100000 in
theorem spec_HardestHouses.calls (a0 : Int) (A1 : Option Addr) (c1 : Nat) (l1 : List Int) (r1 : List (List Int)) (r2 : Bool) (w : World) (hr1 : Kd.C (Kd.int .i64) w A1 l1.length l1) (hc1 : l1.length ≤ c1) (h : spec_HardestHouses.f a0 l1 = some (r1, r2)) :
    Calls Try.prog 52 #[.int .i64 a0, .slice A1 l1.length c1] w fun e w' => ∃ v0_ : Value, e = .returned (.tuple #[v0_, .bool r2]) ∧ Kd.S (Kd.slice 3 (Kd.int .i64)) 46 w' w.heap.size (fun _ => True) v0_ r1 ∧ Below w.heap.size w w' := by
  have HB := Aside0.mk (Below.refl w.heap.size w)
  have HC1 := Aside0.mk hr1
  have HL1 := Aside0.mk hc1
  obtain ⟨b1, hb1⟩ : ∃ b, b = hAsk a0 l1 := ⟨_, rfl⟩
  have e1 := asked_is a0 l1
  unfold spec_HardestHouses.f hardH at h
  rw [← hb1] at e1 h
  have HC := Aside0.mk e1
  have HAG := Aside0.mk hb1
  clear e1 hb1 hr1 hc1
  cases b1 with
  | false =>
    simp only [Bool.false_eq_true, if_false, Option.some.injEq, Prod.mk.injEq] at h
    obtain ⟨rfl, rfl⟩ := h
    go_enter Try.func52, Try.ntmps52
    go_wp2_with (first | ((with_reducible refine gate_callee (f := 80) rfl ?_); refine goesL_ (some 14) rfl rfl Try.func80 (by kernel_rfl) rfl #[.int .i64 a0, .slice A1 l1.length c1] rfl (by (try simp only [List.map_toArray, List.map_cons, List.map_nil]); first | done | rfl) ?_; refine (spec_hoAsked.calls 9 a0 A1 c1 l1 _ _ HC1.out HL1.out HC.out).mono ?_; rintro e_ w_1 ⟨rfl, hd_⟩; refine ⟨_, rfl, ?_⟩; have hb_ : Below _ _ w_1 := (by first | exact hd_ | exact hd_.below); clear hd_; have n0_ : Aside0 (Below w.heap.size w w_1) := ⟨Hx.bb_below hb_ (by first | exact HB.out | exact below_drew1 HB.out | exact pw_below_drewN HB.out _)⟩; (try clear HB); have HB := n0_; clear n0_; clear hb_))
    go_ret2
    exact ⟨_, rfl, Kd.S_nil _ _ _ _ _, HB.out⟩
  | true =>
    simp only [if_true, Option.some.injEq, Prod.mk.injEq] at h
    obtain ⟨h1, rfl⟩ := h
    have HG0 := Aside0.mk (hAsk_good HAG.out.symm)
    have hpn := allB_len HG0.out.1
    have hpm := allB_mem (l := l1)
    obtain ⟨PL, hPL⟩ : ∃ PL, PL = allB l1 := ⟨_, rfl⟩
    rw [← hPL] at h1 hpn hpm
    have HPL := Aside0.mk hPL
    have HPL2 : Aside0 ((l1.drop ([] : List Int).length).foldl stepB [[]] = PL) := ⟨hPL.symm⟩
    have HPN := Aside0.mk hpn
    have HPM := Aside0.mk hpm
    obtain ⟨cnt, hcnt⟩ : ∃ cnt : List Int → Int, cnt = fun p => ((hPlay p (vOf a0 l1).ms (vOf a0 l1) (fun _ => 0)).length : Int) := ⟨_, rfl⟩
    rw [← hcnt] at h1
    have HCN := Aside0.mk hcnt
    rw [hScan_start cnt (fun p => by rw [hcnt]; exact Int.natCast_nonneg _) PL (0) (by omega) (by omega)] at h1
    have H1 := Aside0.mk h1
    clear h1 hcnt hPL hpn hpm
    go_enter Try.func52, Try.ntmps52
    go_upto_region 3 with (first | ((with_reducible refine gate_callee (f := 80) rfl ?_); refine goesL_ (some 14) rfl rfl Try.func80 (by kernel_rfl) rfl #[.int .i64 a0, .slice A1 l1.length c1] rfl (by (try simp only [List.map_toArray, List.map_cons, List.map_nil]); first | done | rfl) ?_; refine (spec_hoAsked.calls 9 a0 A1 c1 l1 _ _ HC1.out HL1.out HC.out).mono ?_; rintro e_ w_1 ⟨rfl, hd_⟩; refine ⟨_, rfl, ?_⟩; have hb_ : Below _ _ w_1 := (by first | exact hd_ | exact hd_.below); clear hd_; have n0_ : Aside0 (Below w.heap.size w w_1) := ⟨Hx.bb_below hb_ (by first | exact HB.out | exact below_drew1 HB.out | exact pw_below_drewN HB.out _)⟩; (try clear HB); have HB := n0_; clear n0_; clear hb_) | ((with_reducible refine gate_callee (f := 83) rfl ?_); refine goesL_ (some 16) rfl rfl Try.func83 (by kernel_rfl) rfl #[] rfl (by (try simp only [List.map_toArray, List.map_cons, List.map_nil]); first | done | rfl) ?_; refine (spec_hoTable.calls 5108 _ _ hoTable_is).mono ?_; rintro e_ w_2 ⟨v_, rfl, hr_, hb_⟩; refine ⟨_, rfl, ?_⟩; obtain ⟨mb, c0, rfl, ht_, hz_⟩ := htab_of hr_; have Z1 := Aside0.mk (show w.heap.size ≤ mb from Nat.le_trans HB.out.size hz_); have HB2 := Aside0.mk (Hx.bb_below hb_ HB.out); clear HB; have HB := HB2; clear HB2; have HS := Aside0.mk ht_; clear ht_ hb_ hr_ hz_) | ((with_reducible refine gate_callee (f := 93) rfl ?_); refine goesL_ (some 18) rfl rfl Try.func93 (by kernel_rfl) rfl #[.slice A1 l1.length c1, .slice none 0 0] rfl (by (try simp only [List.map_toArray, List.map_cons, List.map_nil]); first | done | rfl) ?_; refine (hoAll_ok l1 HG0.out.1 A1 c1 w_2.heap.size HL1.out l1.length [] (by simp) none 0 (fun _ => True) w_2 (Nat.le_refl _) (Kd.C_below HC1.out HB.out) (Kd.R_nil _ _ _ _ _)).mono ?_; rintro e_ w_3 ⟨v_, rfl, hs_, hb_⟩; refine ⟨_, rfl, ?_⟩; rw [HPL2.out] at hs_; obtain ⟨A_, cP, rfl⟩ := Kd.S_slice hs_; have Z2 := Aside0.mk (show mb < w_2.heap.size from HS.out.lt); have HS2 := Aside0.mk (HTab.below HS.out hb_); have HB2 := Aside0.mk (Hx.bb_below hb_ HB.out); have ZB := Aside0.mk hb_.size; have HP0 := Aside0.mk hs_; clear HB HS hs_ hb_; have HB := HB2; have HS := HS2; clear HB2 HS2))
    go_wp2_with (first | ((with_reducible refine gate_callee (f := 80) rfl ?_); refine goesL_ (some 14) rfl rfl Try.func80 (by kernel_rfl) rfl #[.int .i64 a0, .slice A1 l1.length c1] rfl (by (try simp only [List.map_toArray, List.map_cons, List.map_nil]); first | done | rfl) ?_; refine (spec_hoAsked.calls 9 a0 A1 c1 l1 _ _ HC1.out HL1.out HC.out).mono ?_; rintro e_ w_1 ⟨rfl, hd_⟩; refine ⟨_, rfl, ?_⟩; have hb_ : Below _ _ w_1 := (by first | exact hd_ | exact hd_.below); clear hd_; have n0_ : Aside0 (Below w.heap.size w w_1) := ⟨Hx.bb_below hb_ (by first | exact HB.out | exact below_drew1 HB.out | exact pw_below_drewN HB.out _)⟩; (try clear HB); have HB := n0_; clear n0_; clear hb_) | ((with_reducible refine gate_callee (f := 83) rfl ?_); refine goesL_ (some 16) rfl rfl Try.func83 (by kernel_rfl) rfl #[] rfl (by (try simp only [List.map_toArray, List.map_cons, List.map_nil]); first | done | rfl) ?_; refine (spec_hoTable.calls 5108 _ _ hoTable_is).mono ?_; rintro e_ w_2 ⟨v_, rfl, hr_, hb_⟩; refine ⟨_, rfl, ?_⟩; obtain ⟨mb, c0, rfl, ht_, hz_⟩ := htab_of hr_; have Z1 := Aside0.mk (show w.heap.size ≤ mb from Nat.le_trans HB.out.size hz_); have HB2 := Aside0.mk (Hx.bb_below hb_ HB.out); clear HB; have HB := HB2; clear HB2; have HS := Aside0.mk ht_; clear ht_ hb_ hr_ hz_) | ((with_reducible refine gate_callee (f := 93) rfl ?_); refine goesL_ (some 18) rfl rfl Try.func93 (by kernel_rfl) rfl #[.slice A1 l1.length c1, .slice none 0 0] rfl (by (try simp only [List.map_toArray, List.map_cons, List.map_nil]); first | done | rfl) ?_; refine (hoAll_ok l1 HG0.out.1 A1 c1 w_2.heap.size HL1.out l1.length [] (by simp) none 0 (fun _ => True) w_2 (Nat.le_refl _) (Kd.C_below HC1.out HB.out) (Kd.R_nil _ _ _ _ _)).mono ?_; rintro e_ w_3 ⟨v_, rfl, hs_, hb_⟩; refine ⟨_, rfl, ?_⟩; rw [HPL2.out] at hs_; obtain ⟨A_, cP, rfl⟩ := Kd.S_slice hs_; have Z2 := Aside0.mk (show mb < w_2.heap.size from HS.out.lt); have HS2 := Aside0.mk (HTab.below HS.out hb_); have HB2 := Aside0.mk (Hx.bb_below hb_ HB.out); have ZB := Aside0.mk hb_.size; have HP0 := Aside0.mk hs_; clear HB HS hs_ hb_; have HB := HB2; have HS := HS2; clear HB2 HS2))
    obtain ⟨f_, hf_⟩ := HP0.out
    obtain ⟨NB, hNB⟩ : ∃ m, m = w_2.heap.size := ⟨_, rfl⟩
    obtain ⟨N1, hN1⟩ : ∃ m, m = w_3.heap.size := ⟨_, rfl⟩
    obtain ⟨N0, hN0⟩ : ∃ m, m = w_2.heap.size := ⟨_, rfl⟩
    have hzz : N0 ≤ w_3.heap.size := by
      have h_ := ZB.out
      omega
    have ORD : Aside0 (w.heap.size ≤ mb ∧ mb < NB ∧ NB ≤ N0 ∧ N0 ≤ N1) := ⟨by have h1_ := Z1.out; have h2_ := Z2.out; omega⟩
    have HP : Aside0 ((Kd.tag f_ (Kd.slice 3 (Kd.int .i64))).R 46 w_3 N0 (fun k_ => N0 ≤ k_ ∧ k_ < N1) (.slice A_ PL.length cP) PL.zipIdx) := ⟨by
      have h_ := Kd.R_mono (Kd.R_bound hf_) (ok' := fun k_ => N0 ≤ k_ ∧ k_ < N1) (fun k_ hk_ => ⟨by have h1_ := hk_.2.1; (try rw [World.size_alloc, World.size_alloc] at h1_); omega, by have h1_ := hk_.2.2.1; omega⟩)
      exact Kd.R_lower h_ (by (try rw [World.size_alloc, World.size_alloc]); omega)⟩
    have HS2 := HS
    clear HS HP0 hf_
    have SZ : Aside0 (N1 ≤ w_3.heap.size) := ⟨by omega⟩
    have h_pos : A_ = none → PL.length = 0 := fun h_ => by
      have h2_ := (Kd.R_reads' HP.out).2.2.2.2
      by_cases h3_ : PL.length = 0
      · exact h3_
      · obtain ⟨ad_, e_, _⟩ := h2_ (by rw [List.length_zipIdx]; omega)
        rw [h_] at e_
        cases e_
    have HA := Aside0.mk h_pos
    clear Z1 Z2 ZB hzz hN1 h_pos
    go_loopg [7, 8, 20] PL.length (fun n v7 v8 vi w' => ∃ (i : Nat) (m : Int) (L : List (List Int × Nat)), vi = .int .i64 i ∧ v7 = .int .i64 m ∧ Aside0 (i + n = PL.length ∧ -1 ≤ m) ∧ Aside0 (hScan cnt (PL.drop i) (L.map (·.1)) m = r1) ∧ Aside0 (L.length ≤ i ∧ (L.map (·.2)).Pairwise (· < ·) ∧ ∀ x ∈ L.map (·.2), x < i) ∧ Aside0 ((Kd.tag f_ (Kd.slice 3 (Kd.int .i64))).R 46 w' w.heap.size (fun k_ => NB ≤ k_) v8 L) ∧ Aside0 (∀ k_, v8.ownBlock = some k_ → NB ≤ k_ ∧ (k_ < N0 ∨ N1 ≤ k_)) ∧ Aside0 ((Kd.tag f_ (Kd.slice 3 (Kd.int .i64))).R 46 w' N0 (fun k_ => N0 ≤ k_ ∧ k_ < N1) (.slice A_ PL.length cP) PL.zipIdx) ∧ Aside0 (HTab w' mb c0) ∧ Aside0 (Below w.heap.size w w') ∧ Aside0 (N1 ≤ w'.heap.size))
    case atStart =>
      refine ⟨0, 0, [], rfl, rfl, ⟨by simp⟩, H1, ⟨by simp⟩, ⟨Kd.R_nil _ _ _ _ _⟩, ⟨by simp [Value.ownBlock]⟩, HP, HS2, HB, SZ⟩
    case round =>
      clear HP HS2 HB SZ H1
      obtain ⟨i, m, L, rfl, rfl, HI, HL, HLL, HO, OWN, HP, HS, HB, SZ⟩ := hrel
      by_cases hlt : i < PL.length
      · have p0 : (0 : Int) ≤ (i : Int) := by omega
        have q0 : (i : Int) < (PL.length : Int) := by omega
        obtain ⟨adP, rfl⟩ : ∃ ad, A_ = some ad := by
          cases A_ with
          | none => exact absurd (HA.out rfl) (by omega)
          | some ad => exact ⟨ad, rfl⟩
        obtain ⟨y, hx⟩ : ∃ y, PL[i] = y := ⟨_, rfl⟩
        have HYL : Aside0 (y.length = l1.length) := ⟨by rw [← hx]; exact HPM.out _ (List.getElem_mem hlt)⟩
        have HYP : Aside0 (0 < y.length) := ⟨by have := HYL.out; have := HG0.out.1.1; omega⟩
        have HPG : Aside0 (PGood y.length (vOf a0 l1) (fun _ => 0)) := ⟨start_len HAG.out.symm HYL.out⟩
        obtain ⟨c_, hc1, hM, hcc⟩ := Kd.R_getA HP.out (([], 0) : List Int × Nat) (i : Int) p0 q0
        have hz : PL.zipIdx.getD (i : Int).toNat ([], 0) = (y, i) := by
          rw [Int.toNat_natCast, List.getD_eq_getElem?_getD, List.getElem?_zipIdx, List.getElem?_eq_getElem hlt, hx]
          simp
        rw [hz] at hM
        obtain ⟨vp, rfl, hRv⟩ := hM
        obtain ⟨gp, cp, rfl, hgb, hgl, csp, hcs⟩ := Kd.R_form hRv HYP.out
        have HYC : Aside0 (y.length ≤ cp) := ⟨(Kd.R_reads' hRv).2.1⟩
        have QR : Aside0 ((Kd.tag f_ (Kd.slice 3 (Kd.int .i64))).M wr N0 (fun k_ => N0 ≤ k_ ∧ k_ < N1) ((y, i) : List Int × Nat) [.slice (some ⟨gp, 0, none⟩) y.length cp]) := ⟨⟨_, rfl, Kd.R_mono hRv (fun k_ hk_ => ⟨hk_.1.1, hk_.2⟩)⟩⟩
        have GPN : Aside0 (N0 ≤ gp) := ⟨hgb⟩
        have cp0 : wr.cell? (adP.add i) = some (.slice (some ⟨gp, 0, none⟩) y.length cp) := by
          have h_ := hcc 0 _ rfl
          rw [show (Kd.tag f_ (Kd.slice 3 (Kd.int .i64))).sz = 1 from rfl, Int.toNat_natCast, Nat.mul_one, Nat.add_zero] at h_
          exact h_
        obtain ⟨r5, hr5⟩ : ∃ r, r = hPlay y (vOf a0 l1).ms (vOf a0 l1) (fun _ => 0) := ⟨_, rfl⟩
        have HR5 := Aside0.mk hr5
        have HN : Aside0 (cnt y = (r5.length : Int)) := ⟨by rw [HCN.out, hr5]⟩
        have HL2 : Aside0 (hScan cnt (y :: PL.drop (i + 1)) (L.map (·.1)) m = r1) := ⟨by rw [← hx, ← List.drop_eq_getElem_cons hlt]; exact HL.out⟩
        obtain ⟨k1, rfl⟩ : ∃ k1, gk = k1 + 1 := ⟨gk - 1, by have := HI.out; omega⟩
        have dd0 : decide ((i : Int) < (PL.length : Int)) = true := decide_eq_true q0
        have dd0n : decide (i < PL.length) = true := decide_eq_true hlt
        have dd1 : decide (0 ≤ (i : Int)) = true := decide_eq_true p0
        have w2 : IntKind.i64.wrap ((i : Int) + 1) = ((i + 1 : Nat) : Int) := by rw [Hw.wrap_w (by omega) (by have := HPN.out; omega)]; omega
        have HLT := Aside0.mk hlt
        replace p0 := eq_true p0
        replace q0 := eq_true q0
        clear hlt hx hc1 hcc hz hRv hgb hgl hcs hr5 HL
        go_upto_region 10 with (first | ((with_reducible refine gate_callee (f := 89) rfl ?_); refine goesL_ (some 28) rfl rfl Try.func89 (by kernel_rfl) rfl #[.slice (some ⟨mb, 0, none⟩) 5103 c0, .int .i64 a0, .slice A1 l1.length c1, .slice (some ⟨gp, 0, none⟩) y.length cp] rfl (by (try simp only [List.map_toArray, List.map_cons, List.map_nil]); first | done | rfl) ?_; refine (shplay_of mb c0 a0 l1 y HG0.out.1 HG0.out.2.1 HPG.out HYL.out r5 HR5.out A1 c1 HL1.out (some ⟨gp, 0, none⟩) cp HYC.out _ (lst_of HC1.out HG0.out.1.1 HB.out (by have := ORD.out; omega)) (lst_of_M QR.out (by have := ORD.out; have := GPN.out; omega)) HS.out).mono ?_; rintro e_ w_5 ⟨v_, rfl, hr_, hs_, hg_⟩; refine ⟨_, rfl, ?_⟩; obtain ⟨A5, c5, rfl⟩ := Kd.R_slice hr_; have n0_ : Aside0 (HTab w_5 mb c0) := ⟨hs_⟩; have n1_ : Aside0 (Below w.heap.size w w_5) := ⟨Hx.bb_grown (by first | exact HB.out | exact below_drew1 HB.out | exact pw_below_drewN HB.out _) hg_ (by have := ORD.out; omega)⟩; have n2_ : Aside0 ((Kd.tag f_ (Kd.slice 3 (Kd.int .i64))).R 46 w_5 N0 (fun k_ => N0 ≤ k_ ∧ k_ < N1) (.slice (some adP) PL.length cP) PL.zipIdx) := ⟨Kd.R_grown (row := some mb) HP.out hg_ (fun k_ hk_ h_ => by have := Option.some.inj h_; have := hk_.1; have := ORD.out; omega)⟩; have n3_ : Aside0 (N1 ≤ w_5.heap.size) := ⟨Nat.le_trans SZ.out hg_.size⟩; have n4_ : Aside0 ((Kd.tag f_ (Kd.slice 3 (Kd.int .i64))).R 46 w_5 w.heap.size (fun k_ => NB ≤ k_) u8 L) := ⟨Kd.R_grown (row := some mb) HO.out hg_ (fun k_ hk_ h_ => by have := Option.some.inj h_; have h2_ : NB ≤ k_ := hk_; have := ORD.out; omega)⟩; have n5_ : Aside0 ((Kd.tag f_ (Kd.slice 3 (Kd.int .i64))).M w_5 N0 (fun k_ => N0 ≤ k_ ∧ k_ < N1) ((y, i) : List Int × Nat) [.slice (some ⟨gp, 0, none⟩) y.length cp]) := ⟨Kd.M_grown (row := some mb) QR.out hg_ (fun k_ hk_ h_ => by have := Option.some.inj h_; have := hk_.1; have := ORD.out; omega)⟩; (try clear HS); (try clear HB); (try clear HP); (try clear SZ); (try clear HO); (try clear QR); have HS := n0_; have HB := n1_; have HP := n2_; have SZ := n3_; have HO := n4_; have QR := n5_; clear n0_ n1_ n2_ n3_ n4_ n5_; clear hs_ hg_ hr_))
        clear cp0
        rcases (by omega : (r5.length : Int) > m ∨ (r5.length : Int) = m ∨ (r5.length : Int) < m) with hgt | heq | hlt
        · have d1 : decide ((r5.length : Int) > m) = true := decide_eq_true hgt
          have d1' : decide (m < (r5.length : Int)) = true := decide_eq_true hgt
          obtain ⟨L2, hL2⟩ : ∃ L2 : List (List Int × Nat), L2 = [] ++ [((y, i) : List Int × Nat)] := ⟨_, rfl⟩
          have NL2 := Aside0.mk hL2
          have HL3 : Aside0 (hScan cnt (PL.drop (i + 1)) (L2.map (·.1)) (r5.length : Int) = r1) := ⟨by
            have h_ := HL2.out
            rw [hScan, HN.out, if_pos hgt] at h_
            rw [hL2]
            exact h_⟩
          have HLL2 : Aside0 (L2.length ≤ i + 1 ∧ (L2.map (·.2)).Pairwise (· < ·) ∧ ∀ x ∈ L2.map (·.2), x < i + 1) := ⟨by rw [hL2]; simp⟩
          have OWN0 := OWN
          clear OWN
          have OWN : Aside0 (∀ k_, (Value.slice none 0 0).ownBlock = some k_ → NB ≤ k_ ∧ (k_ < N0 ∨ N1 ≤ k_)) := ⟨by simp [Value.ownBlock]⟩
          clear hgt hL2 HL2 HO OWN0
          go_wp2_with (first | (first | ((with_reducible refine gate_builtin (b := .append) (xs := #[.tmp 37, .tmp 39]) rfl ?_); at_builtin; refine Kd.R_append (Kd.tag f_ (Kd.slice 3 (Kd.int .i64))) (w0 := w_5) (w.heap.size) rfl (.tmp 37) (.tmp 39) 30 46 (.slice none 0 0) 24 rfl Try.underlying30 info46 rfl (show 0 < 1 from Nat.zero_lt_one) (by omega) (.slice none 0 0) [] ((y, i) : List Int × Nat) [.slice (some ⟨gp, 0, none⟩) y.length cp] (fun k_ => NB ≤ k_) (fun k_ => N0 ≤ k_ ∧ k_ < N1) rfl rfl ?aP (fun k_ hk_ => ⟨by have h1_ := hk_.1; have := ORD.out; show NB ≤ k_; omega, fun h_ => by have h2_ := OWN.out k_ h_.symm; have h3_ := hk_.2; have h4_ := hk_.1; omega⟩) ?aF ?aO ?aB ?aS ?aL ?_; (case aP => exact Kd.M_lower _ (show w.heap.size ≤ N0 by have := ORD.out; omega) QR.out); (case aB => exact Below.refl _ _); (case aF => exact (fun k_ hk_ => by have := SZ.out; have := ORD.out; show NB ≤ k_; omega)); (case aO => exact Kd.R_nil _ _ _ _ _); (case aS => exact HB.out.size); (case aL => have := HI.out; have := HLL.out.1; have := HPN.out; (try simp only [List.length_nil]); omega); intro v_ w_6 ho_ hb_ hg_ hat_; rw [← NL2.out] at ho_; (try clear HO); have n0_ : Aside0 (HTab w_6 mb c0) := ⟨HTab.grown HS.out hg_ (fun h_ => by have h2_ := OWN.out mb h_.symm; have := ORD.out; omega)⟩; have n1_ : Aside0 (Below w.heap.size w w_6) := ⟨Hx.bb_append (by first | exact HB.out | exact below_drew1 HB.out) hg_ (fun k_ h_ => by have h2_ := OWN.out k_ h_; have := ORD.out; omega)⟩; have n2_ : Aside0 ((Kd.tag f_ (Kd.slice 3 (Kd.int .i64))).R 46 w_6 N0 (fun k_ => N0 ≤ k_ ∧ k_ < N1) (.slice (some adP) PL.length cP) PL.zipIdx) := ⟨Kd.R_grown HP.out hg_ (fun k_ hk_ h_ => by have h2_ := OWN.out k_ h_.symm; have h3_ := hk_.2; have h4_ := hk_.1; omega)⟩; have n3_ : Aside0 (N1 ≤ w_6.heap.size) := ⟨Nat.le_trans SZ.out hg_.size⟩; have m0_ : Aside0 ((Kd.tag f_ (Kd.slice 3 (Kd.int .i64))).R 46 w_6 w.heap.size (fun k_ => NB ≤ k_) v_ L2) := ⟨ho_⟩; have m1_ : Aside0 (∀ k_, v_.ownBlock = some k_ → NB ≤ k_ ∧ (k_ < N0 ∨ N1 ≤ k_)) := ⟨fun k_ h_ => hat_.elim (fun h2_ => OWN.out k_ (by rw [← h2_]; exact h_)) (fun h2_ => by obtain ⟨b_, h3_, h4_⟩ := h2_; rw [h3_] at h_; have := Option.some.inj h_; have := SZ.out; have := ORD.out; omega)⟩; (try clear HS); (try clear HB); (try clear HP); (try clear SZ); have HS := n0_; have HB := n1_; have HP := n2_; have SZ := n3_; have HO := m0_; have OWN2 := m1_; clear n0_ n1_ n2_ n3_ m0_ m1_; clear ho_ hb_ hg_ hat_ QR)))
          go_roundg k1
          case measure => omega
          case rel => exact ⟨i + 1, _, L2, rfl, rfl, ⟨by have := HI.out; omega⟩, HL3, HLL2, HO, OWN2, HP, HS, HB, SZ⟩
        · have d1 : decide ((r5.length : Int) > m) = false := decide_eq_false (by omega)
          have d1' : decide (m < (r5.length : Int)) = false := decide_eq_false (by omega)
          have d2 : ((r5.length : Int) == m) = true := by simpa using heq
          obtain ⟨L2, hL2⟩ : ∃ L2 : List (List Int × Nat), L2 = L ++ [((y, i) : List Int × Nat)] := ⟨_, rfl⟩
          have NL2 := Aside0.mk hL2
          have HL3 : Aside0 (hScan cnt (PL.drop (i + 1)) (L2.map (·.1)) m = r1) := ⟨by
            have h_ := HL2.out
            rw [hScan, HN.out, if_neg (by omega), if_pos heq] at h_
            rw [hL2, List.map_append]
            exact h_⟩
          have HLL2 : Aside0 (L2.length ≤ i + 1 ∧ (L2.map (·.2)).Pairwise (· < ·) ∧ ∀ x ∈ L2.map (·.2), x < i + 1) := ⟨by
            obtain ⟨q1, q2, q3⟩ := HLL.out
            rw [hL2, List.map_append]
            refine ⟨by simp; omega, List.pairwise_append.2 ⟨q2, by simp, fun a ha b hb => ?_⟩, fun x hx => ?_⟩
            · have h_ : b = i := by simpa using hb
              rw [h_]
              exact q3 a ha
            · rcases List.mem_append.1 hx with h_ | h_
              · have := q3 x h_; omega
              · have h2_ : x = i := by simpa using h_
                omega⟩
          clear heq hL2 HL2
          go_wp2_with (first | (first | ((with_reducible refine gate_builtin (b := .append) (xs := #[.tmp 37, .tmp 39]) rfl ?_); at_builtin; refine Kd.R_append (Kd.tag f_ (Kd.slice 3 (Kd.int .i64))) (w0 := w_5) (w.heap.size) rfl (.tmp 37) (.tmp 39) 30 46 (.slice none 0 0) 24 rfl Try.underlying30 info46 rfl (show 0 < 1 from Nat.zero_lt_one) (by omega) u8 L ((y, i) : List Int × Nat) [.slice (some ⟨gp, 0, none⟩) y.length cp] (fun k_ => NB ≤ k_) (fun k_ => N0 ≤ k_ ∧ k_ < N1) rfl rfl ?aP (fun k_ hk_ => ⟨by have h1_ := hk_.1; have := ORD.out; show NB ≤ k_; omega, fun h_ => by have h2_ := OWN.out k_ h_.symm; have h3_ := hk_.2; have h4_ := hk_.1; omega⟩) ?aF ?aO ?aB ?aS ?aL ?_; (case aP => exact Kd.M_lower _ (show w.heap.size ≤ N0 by have := ORD.out; omega) QR.out); (case aB => exact Below.refl _ _); (case aF => exact (fun k_ hk_ => by have := SZ.out; have := ORD.out; show NB ≤ k_; omega)); (case aO => exact HO.out); (case aS => exact HB.out.size); (case aL => have := HI.out; have := HLL.out.1; have := HPN.out; (try simp only [List.length_nil]); omega); intro v_ w_6 ho_ hb_ hg_ hat_; rw [← NL2.out] at ho_; (try clear HO); have n0_ : Aside0 (HTab w_6 mb c0) := ⟨HTab.grown HS.out hg_ (fun h_ => by have h2_ := OWN.out mb h_.symm; have := ORD.out; omega)⟩; have n1_ : Aside0 (Below w.heap.size w w_6) := ⟨Hx.bb_append (by first | exact HB.out | exact below_drew1 HB.out) hg_ (fun k_ h_ => by have h2_ := OWN.out k_ h_; have := ORD.out; omega)⟩; have n2_ : Aside0 ((Kd.tag f_ (Kd.slice 3 (Kd.int .i64))).R 46 w_6 N0 (fun k_ => N0 ≤ k_ ∧ k_ < N1) (.slice (some adP) PL.length cP) PL.zipIdx) := ⟨Kd.R_grown HP.out hg_ (fun k_ hk_ h_ => by have h2_ := OWN.out k_ h_.symm; have h3_ := hk_.2; have h4_ := hk_.1; omega)⟩; have n3_ : Aside0 (N1 ≤ w_6.heap.size) := ⟨Nat.le_trans SZ.out hg_.size⟩; have m0_ : Aside0 ((Kd.tag f_ (Kd.slice 3 (Kd.int .i64))).R 46 w_6 w.heap.size (fun k_ => NB ≤ k_) v_ L2) := ⟨ho_⟩; have m1_ : Aside0 (∀ k_, v_.ownBlock = some k_ → NB ≤ k_ ∧ (k_ < N0 ∨ N1 ≤ k_)) := ⟨fun k_ h_ => hat_.elim (fun h2_ => OWN.out k_ (by rw [← h2_]; exact h_)) (fun h2_ => by obtain ⟨b_, h3_, h4_⟩ := h2_; rw [h3_] at h_; have := Option.some.inj h_; have := SZ.out; have := ORD.out; omega)⟩; (try clear HS); (try clear HB); (try clear HP); (try clear SZ); have HS := n0_; have HB := n1_; have HP := n2_; have SZ := n3_; have HO := m0_; have OWN2 := m1_; clear n0_ n1_ n2_ n3_ m0_ m1_; clear ho_ hb_ hg_ hat_ QR)))
          go_roundg k1
          case measure => omega
          case rel => exact ⟨i + 1, m, L2, rfl, rfl, ⟨by have := HI.out; omega⟩, HL3, HLL2, HO, OWN2, HP, HS, HB, SZ⟩
        · have d1 : decide ((r5.length : Int) > m) = false := decide_eq_false (by omega)
          have d1' : decide (m < (r5.length : Int)) = false := decide_eq_false (by omega)
          have d2 : ((r5.length : Int) == m) = false := by simp; omega
          have HL3 : Aside0 (hScan cnt (PL.drop (i + 1)) (L.map (·.1)) m = r1) := ⟨by
            have h_ := HL2.out
            rw [hScan, HN.out, if_neg (by omega), if_neg (by omega)] at h_
            exact h_⟩
          have HLL2 : Aside0 (L.length ≤ i + 1 ∧ (L.map (·.2)).Pairwise (· < ·) ∧ ∀ x ∈ L.map (·.2), x < i + 1) := ⟨by
            obtain ⟨q1, q2, q3⟩ := HLL.out
            exact ⟨by omega, q2, fun x hx => Nat.lt_succ_of_lt (q3 x hx)⟩⟩
          clear hlt HL2
          go_wp2
          go_roundg k1
          case measure => omega
          case rel => exact ⟨i + 1, m, L, rfl, rfl, ⟨by have := HI.out; omega⟩, HL3, HLL2, HO, OWN, HP, HS, HB, SZ⟩
      · have dd0 : decide ((i : Int) < (PL.length : Int)) = false := decide_eq_false (by omega)
        have dd0n : decide (i < PL.length) = false := decide_eq_false hlt
        have HE : Aside0 (L.map (·.1) = r1) := ⟨by
          have h_ := HL.out
          rw [List.drop_of_length_le (by omega)] at h_
          exact h_⟩
        clear hlt
        go_wp2
        go_ret2
        refine ⟨_, rfl, ?_, HB.out⟩
        rw [← HE.out]
        exact Kd.S_mono (Hx.S_of_tags HO.out (HLL.out.2.1.imp (fun h_ => Nat.ne_of_lt h_))) (fun _ _ => trivial)


-- FOR laws.FnExactHardestHouses
theorem toTrueI (F F' L : List Int) (W : World) (A : Option Addr) (n c : Nat) (h0 : L.length = 0 → F' = []) (h2 : L.length ≠ 0 → F' = F) (hL : F.take L.length = L) (q1 : F'.length ≤ c) (q2 : Kd.C (Kd.int .i64) W A F'.length F') (hn : n = L.length ∨ F' = [] ∧ n = 0) :
    n = L.length ∧ Kd.C (Kd.int .i64) W A L.length L ∧ L.length ≤ c := by
  have hLF : L.length ≤ F.length := by have h_ := congrArg List.length hL; rw [List.length_take] at h_; omega
  by_cases hz : L.length = 0
  · have h_ := h0 hz
    subst h_
    obtain rfl := List.eq_nil_of_length_eq_zero hz
    refine ⟨?_, q2, Nat.zero_le _⟩
    rcases hn with h_ | ⟨_, h_⟩
    · exact h_
    · exact h_
  · have h_ := h2 hz
    subst h_
    refine ⟨?_, by have h_ := Hw.C_take q2 L.length hLF; rw [hL] at h_; exact h_, Nat.le_trans hLF q1⟩
    rcases hn with h_ | ⟨h_, h3_⟩
    · exact h_
    · rw [h3_, ← hL, h_]; simp
set_option maxHeartbeats 8000000 in
set_option maxRecDepth 100000 in
theorem hand_FnExactHardestHouses (k : Nat) (a0 : Int) (A1 : Option Addr) (c1 : Nat) (l1 : List Int) (w : World) (hr1 : Kd.C (Kd.int .i64) w A1 l1.length l1) (hc1 : l1.length ≤ c1) (F1 F1' Lx1 : List Int) (t1 m1 : Int) (G : List (List Int)) (r2 : Bool) (Gm : List (List Int)) (m : Int) (hF1 : full_toIntS.f k l1 false = some F1) (hFt1 : full_toIntS.f k l1 true = some F1') (hF21 : l1.length ≠ 0 → F1' = F1) (hF01 : l1.length = 0 → F1' = []) (hL1 : F1.take l1.length = l1) (hqt1 : laws_roomBehind.f (l1.length : Int) = some t1) (hn1 : wrap64 ((l1.length : Int) + t1) = (F1.length : Int)) (he1 : laws_eqIntS.f k F1 F1 = some true) (hmx1 : laws_markIntS.f k l1 101 = some (m1, Lx1)) (h1 : spec_HardestHouses.f a0 l1 = some (G, r2)) (h2 : impl_HardestHouses.f a0 l1 = some (G, r2)) (hq : laws_eqIntSS.f k G G = some true) (hmg : laws_markIntSS.f k G 101 = some (m, Gm)) (hhg : laws_heldIntSS.f k Gm 101 = some m) (hGm : Gm.length = G.length) (hm0 : 0 ≤ m) (hkx : 0 ≤ m1) (hbig : (l1.length : Int) ≤ 1000000) :
    Calls Try.prog 13 #[.int .i64 a0, .slice A1 l1.length c1] w fun e w' => e = .returned (.bool true) ∧ Below w.heap.size w w' := by
  have HR1 := Aside0.mk hr1
  have HC1 := Aside0.mk hc1
  have HF1 := Aside0.mk hF1
  have HF1t := Aside0.mk hFt1
  have HF21 := Aside0.mk hF21
  have HF01 := Aside0.mk hF01
  have HL1 := Aside0.mk hL1
  have HQT1 := Aside0.mk hqt1
  have HN1 := Aside0.mk hn1
  have HE1 := Aside0.mk he1
  have HMX1 := Aside0.mk hmx1
  have H1 := Aside0.mk h1
  have H2 := Aside0.mk h2
  have HQ := Aside0.mk hq
  have HMG := Aside0.mk hmg
  have HHG := Aside0.mk hhg
  have HGm := Aside0.mk hGm
  have HB := Aside0.mk (Below.refl w.heap.size w)
  have dm : decide (m < 0) = false := decide_eq_false (by omega)
  have dk : decide (m1 < 0) = false := decide_eq_false (by omega)
  have hr2_ : (r2 != r2) = false := by simp
  have hz1_ : (0 : Int) ≤ (l1.length : Int) := Int.natCast_nonneg _
  have dbig : decide ((l1.length : Int) > 1000000) = false := decide_eq_false (by omega)
  have dbig2 : decide (1000000 < (l1.length : Int)) = false := decide_eq_false (by omega)
  have dbig3 : decide (l1.length > 1000000) = false := decide_eq_false (by omega)
  clear hz1_ hbig
  clear hm0 hkx hr1 hc1 hF1 hFt1 hF21 hF01 hL1 hqt1 hn1 he1 hmx1 h1 h2 hq hmg hhg hGm
  go_enter Try.func13, Try.ntmps13
  go_wp2_with fail
  refine (full_toIntS.calls k _ _ l1 false F1 w (Kd.C_below HR1.out HB.out) HC1.out HF1.out).mono ?_
  rintro e w1 hp_
  obtain ⟨A1_, n1_, c1_, rfl, hR_, hn_, hb_⟩ := hp_
  have hq_ := Kd.R_reads' hR_
  obtain rfl : n1_ = l1.length := (by rcases hn_ with h_ | ⟨h_, h2_⟩; exact h_; exact h2_.trans (by have h3_ := congrArg List.length HL1.out; rw [h_, List.length_take, List.length_nil, Nat.min_zero] at h3_; exact h3_))
  have hl_ : l1.length ≤ F1.length := by have h_ := congrArg List.length HL1.out; rw [List.length_take] at h_; omega
  have HU1 : Aside0 (l1.length ≤ c1_) := ⟨Nat.le_trans hl_ hq_.2.1⟩
  have n0_ : Aside0 (Below w.heap.size w w1) := ⟨below_step HB.out hb_⟩
  have m0_ : Aside0 (Kd.C (Kd.int .i64) w1 A1_ l1.length l1) := ⟨by have h_ := Hw.C_take hq_.2.2 l1.length hl_; rw [HL1.out] at h_; exact h_⟩
  (try clear HB)
  have HB := n0_
  have HV1 := m0_
  clear n0_ m0_
  clear hb_ hR_ hn_ hq_ hl_
  go_wp2_with fail
  refine (spec_HardestHouses.calls a0 _ _ l1 G r2 w1 HV1.out HU1.out H1.out).mono ?_
  rintro e w2 ⟨v_, rfl, ho_, hb_⟩
  obtain ⟨A2_, c2_, rfl⟩ := Kd.S_slice ho_
  have LE0 : Aside0 (w1.heap.size ≤ w2.heap.size) := ⟨hb_.size⟩
  have n0_ : Aside0 (Below w.heap.size w w2) := ⟨below_step HB.out hb_⟩
  have n1_ : Aside0 (Kd.C (Kd.int .i64) w2 A1_ l1.length l1) := ⟨Kd.C_below HV1.out hb_⟩
  have m0_ : Aside0 (Kd.S (Kd.slice 3 (Kd.int .i64)) 46 w2 w.heap.size (fun k_ => w1.heap.size ≤ k_ ∧ k_ < w2.heap.size) (.slice A2_ G.length c2_) G) := ⟨Kd.S_mono (Kd.S_lower (Kd.S_bound ho_) (below_size HB.out)) (fun k_ hk => ⟨hk.2.1, hk.2.2.1⟩)⟩
  (try clear HB)
  (try clear HV1)
  have HB := n0_
  have HV1 := n1_
  have HW := m0_
  clear n0_ n1_ m0_
  clear hb_ ho_
  go_wp2_with fail
  refine (full_toIntS.calls k _ _ l1 false F1 w2 (Kd.C_below HR1.out HB.out) HC1.out HF1.out).mono ?_
  rintro e w3 hp_
  obtain ⟨A3_, n3_, c3_, rfl, hR_, hn_, hb_⟩ := hp_
  have hq_ := Kd.R_reads' hR_
  obtain rfl : n3_ = l1.length := (by rcases hn_ with h_ | ⟨h_, h2_⟩; exact h_; exact h2_.trans (by have h3_ := congrArg List.length HL1.out; rw [h_, List.length_take, List.length_nil, Nat.min_zero] at h3_; exact h3_))
  have hl_ : l1.length ≤ F1.length := by have h_ := congrArg List.length HL1.out; rw [List.length_take] at h_; omega
  have hx_ := Hw.R_take hR_ l1.length hl_
  rw [HL1.out] at hx_
  have HZ1 : Aside0 (F1.length ≤ c3_) := ⟨hq_.2.1⟩
  have LE1 : Aside0 (w2.heap.size ≤ w3.heap.size) := ⟨hb_.size⟩
  have n0_ : Aside0 (Below w.heap.size w w3) := ⟨below_step HB.out hb_⟩
  have n1_ : Aside0 (Kd.S (Kd.slice 3 (Kd.int .i64)) 46 w3 w.heap.size (fun k_ => w1.heap.size ≤ k_ ∧ k_ < w2.heap.size) (.slice A2_ G.length c2_) G) := ⟨Kd.S_below HW.out hb_⟩
  have m0_ : Aside0 (Kd.R (Kd.int .i64) 3 w3 w.heap.size (fun k_ => w2.heap.size ≤ k_ ∧ k_ < w3.heap.size) (.slice A3_ F1.length c3_) F1) := ⟨Kd.R_mono (Kd.R_lower (Kd.R_bound hR_) (below_size HB.out)) (fun k_ hk => ⟨hk.2.1, hk.2.2.1⟩)⟩
  have m1_ : Aside0 (Kd.R (Kd.int .i64) 3 w3 w.heap.size (fun k_ => w2.heap.size ≤ k_ ∧ k_ < w3.heap.size) (.slice A3_ l1.length c3_) l1) := ⟨Kd.R_mono (Kd.R_lower (Kd.R_bound hx_) (below_size HB.out)) (fun k_ hk => ⟨hk.2.1, hk.2.2.1⟩)⟩
  (try clear HB)
  (try clear HW)
  have HB := n0_
  have HW := n1_
  have HY1 := m0_
  have HX1 := m1_
  clear n0_ n1_ m0_ m1_
  clear hb_ hR_ hn_ hq_ hl_ hx_
  go_wp2_with fail
  refine (impl_HardestHouses.calls a0 _ _ l1 G r2 w3 (Kd.R_reads' HX1.out).2.2 (Kd.R_reads' HX1.out).2.1 H2.out).mono ?_
  rintro e w4 ⟨v_, rfl, ho_, hb_⟩
  obtain ⟨A4_, c4_, rfl⟩ := Kd.S_slice ho_
  have LE2 : Aside0 (w3.heap.size ≤ w4.heap.size) := ⟨hb_.size⟩
  have n0_ : Aside0 (Below w.heap.size w w4) := ⟨below_step HB.out hb_⟩
  have n1_ : Aside0 (Kd.S (Kd.slice 3 (Kd.int .i64)) 46 w4 w.heap.size (fun k_ => w1.heap.size ≤ k_ ∧ k_ < w2.heap.size) (.slice A2_ G.length c2_) G) := ⟨Kd.S_below HW.out hb_⟩
  have n2_ : Aside0 (Kd.R (Kd.int .i64) 3 w4 w.heap.size (fun k_ => w2.heap.size ≤ k_ ∧ k_ < w3.heap.size) (.slice A3_ F1.length c3_) F1) := ⟨Kd.R_below HY1.out hb_⟩
  have n3_ : Aside0 (Kd.R (Kd.int .i64) 3 w4 w.heap.size (fun k_ => w2.heap.size ≤ k_ ∧ k_ < w3.heap.size) (.slice A3_ l1.length c3_) l1) := ⟨Kd.R_below HX1.out hb_⟩
  have m0_ : Aside0 (Kd.S (Kd.slice 3 (Kd.int .i64)) 46 w4 w.heap.size (fun k_ => w3.heap.size ≤ k_ ∧ k_ < w4.heap.size) (.slice A4_ G.length c4_) G) := ⟨Kd.S_mono (Kd.S_lower (Kd.S_bound ho_) (below_size HB.out)) (fun k_ hk => ⟨hk.2.1, hk.2.2.1⟩)⟩
  (try clear HB)
  (try clear HW)
  (try clear HY1)
  (try clear HX1)
  have HB := n0_
  have HW := n1_
  have HY1 := n2_
  have HX1 := n3_
  have HG := m0_
  clear n0_ n1_ n2_ n3_ m0_
  clear hb_ ho_
  go_wp2_with fail
  refine (laws_eqIntSS.calls k _ _ G _ _ G true w4 (Kd.S_reads' HG.out).2.2 (Kd.S_reads' HG.out).2.1 (Kd.S_reads' HW.out).2.2 (Kd.S_reads' HW.out).2.1 HQ.out).mono ?_
  rintro e w5 ⟨rfl, hd_⟩
  have hb_ : Below w4.heap.size w4 w5 := (by first | exact hd_ | exact hd_.below)
  have n0_ : Aside0 (Below w.heap.size w w5) := ⟨below_step HB.out hb_⟩
  have n1_ : Aside0 (Kd.S (Kd.slice 3 (Kd.int .i64)) 46 w5 w.heap.size (fun k_ => w1.heap.size ≤ k_ ∧ k_ < w2.heap.size) (.slice A2_ G.length c2_) G) := ⟨Kd.S_below HW.out hb_⟩
  have n2_ : Aside0 (Kd.R (Kd.int .i64) 3 w5 w.heap.size (fun k_ => w2.heap.size ≤ k_ ∧ k_ < w3.heap.size) (.slice A3_ F1.length c3_) F1) := ⟨Kd.R_below HY1.out hb_⟩
  have n3_ : Aside0 (Kd.R (Kd.int .i64) 3 w5 w.heap.size (fun k_ => w2.heap.size ≤ k_ ∧ k_ < w3.heap.size) (.slice A3_ l1.length c3_) l1) := ⟨Kd.R_below HX1.out hb_⟩
  have n4_ : Aside0 (Kd.S (Kd.slice 3 (Kd.int .i64)) 46 w5 w.heap.size (fun k_ => w3.heap.size ≤ k_ ∧ k_ < w4.heap.size) (.slice A4_ G.length c4_) G) := ⟨Kd.S_below HG.out hb_⟩
  (try clear HB)
  (try clear HW)
  (try clear HY1)
  (try clear HX1)
  (try clear HG)
  have HB := n0_
  have HW := n1_
  have HY1 := n2_
  have HX1 := n3_
  have HG := n4_
  clear n0_ n1_ n2_ n3_ n4_
  clear hb_ hd_
  go_wp2_with fail
  refine (full_toIntS.calls k _ _ l1 false F1 w5 (Kd.C_below HR1.out HB.out) HC1.out HF1.out).mono ?_
  rintro e w6 hp_
  obtain ⟨A6_, n6_, c6_, rfl, hR_, hn_, hb_⟩ := hp_
  have hq_ := Kd.R_reads' hR_
  obtain rfl : n6_ = l1.length := (by rcases hn_ with h_ | ⟨h_, h2_⟩; exact h_; exact h2_.trans (by have h3_ := congrArg List.length HL1.out; rw [h_, List.length_take, List.length_nil, Nat.min_zero] at h3_; exact h3_))
  have hl_ : l1.length ≤ F1.length := by have h_ := congrArg List.length HL1.out; rw [List.length_take] at h_; omega
  have HE1_ : Aside0 (F1.length ≤ c6_) := ⟨hq_.2.1⟩
  have n0_ : Aside0 (Below w.heap.size w w6) := ⟨below_step HB.out hb_⟩
  have n1_ : Aside0 (Kd.S (Kd.slice 3 (Kd.int .i64)) 46 w6 w.heap.size (fun k_ => w1.heap.size ≤ k_ ∧ k_ < w2.heap.size) (.slice A2_ G.length c2_) G) := ⟨Kd.S_below HW.out hb_⟩
  have n2_ : Aside0 (Kd.R (Kd.int .i64) 3 w6 w.heap.size (fun k_ => w2.heap.size ≤ k_ ∧ k_ < w3.heap.size) (.slice A3_ F1.length c3_) F1) := ⟨Kd.R_below HY1.out hb_⟩
  have n3_ : Aside0 (Kd.R (Kd.int .i64) 3 w6 w.heap.size (fun k_ => w2.heap.size ≤ k_ ∧ k_ < w3.heap.size) (.slice A3_ l1.length c3_) l1) := ⟨Kd.R_below HX1.out hb_⟩
  have n4_ : Aside0 (Kd.S (Kd.slice 3 (Kd.int .i64)) 46 w6 w.heap.size (fun k_ => w3.heap.size ≤ k_ ∧ k_ < w4.heap.size) (.slice A4_ G.length c4_) G) := ⟨Kd.S_below HG.out hb_⟩
  have m0_ : Aside0 (Kd.C (Kd.int .i64) w6 A6_ F1.length F1) := ⟨hq_.2.2⟩
  (try clear HB)
  (try clear HW)
  (try clear HY1)
  (try clear HX1)
  (try clear HG)
  have HB := n0_
  have HW := n1_
  have HY1 := n2_
  have HX1 := n3_
  have HG := n4_
  have HD1 := m0_
  clear n0_ n1_ n2_ n3_ n4_ m0_
  clear hb_ hR_ hn_ hq_ hl_
  go_wp2_with fail
  refine (intact_IntS k F1 A3_ A6_ l1.length c3_ c6_ t1 w6 HQT1.out HN1.out HZ1.out HE1_.out (Kd.R_reads' HY1.out).2.2 HD1.out HE1.out).mono ?_
  rintro e w7 ⟨rfl, hd_⟩
  have hb_ : Below w6.heap.size w6 w7 := (by first | exact hd_ | exact hd_.below)
  have n0_ : Aside0 (Below w.heap.size w w7) := ⟨below_step HB.out hb_⟩
  have n1_ : Aside0 (Kd.S (Kd.slice 3 (Kd.int .i64)) 46 w7 w.heap.size (fun k_ => w1.heap.size ≤ k_ ∧ k_ < w2.heap.size) (.slice A2_ G.length c2_) G) := ⟨Kd.S_below HW.out hb_⟩
  have n2_ : Aside0 (Kd.R (Kd.int .i64) 3 w7 w.heap.size (fun k_ => w2.heap.size ≤ k_ ∧ k_ < w3.heap.size) (.slice A3_ F1.length c3_) F1) := ⟨Kd.R_below HY1.out hb_⟩
  have n3_ : Aside0 (Kd.R (Kd.int .i64) 3 w7 w.heap.size (fun k_ => w2.heap.size ≤ k_ ∧ k_ < w3.heap.size) (.slice A3_ l1.length c3_) l1) := ⟨Kd.R_below HX1.out hb_⟩
  have n4_ : Aside0 (Kd.S (Kd.slice 3 (Kd.int .i64)) 46 w7 w.heap.size (fun k_ => w3.heap.size ≤ k_ ∧ k_ < w4.heap.size) (.slice A4_ G.length c4_) G) := ⟨Kd.S_below HG.out hb_⟩
  (try clear HB)
  (try clear HW)
  (try clear HY1)
  (try clear HX1)
  (try clear HG)
  (try clear HD1)
  have HB := n0_
  have HW := n1_
  have HY1 := n2_
  have HX1 := n3_
  have HG := n4_
  clear n0_ n1_ n2_ n3_ n4_
  clear hb_ hd_
  go_wp2_with fail
  refine (laws_markIntS.calls k _ _ l1 101 m1 Lx1 w w7 HB.out HX1.out HMX1.out).mono ?_
  rintro e w8 ⟨rfl, hx_, hb_, hk_⟩
  clear hx_
  have n0_ : Aside0 (Below w.heap.size w w8) := ⟨hb_⟩
  have n1_ : Aside0 (Kd.S (Kd.slice 3 (Kd.int .i64)) 46 w8 w.heap.size (fun k_ => w1.heap.size ≤ k_ ∧ k_ < w2.heap.size) (.slice A2_ G.length c2_) G) := ⟨Kd.S_step HW.out (fun k_ h1_ hlt_ => hk_.2 k_ hlt_ (fun h2_ => by have := LE0.out; have := LE1.out; have := LE2.out; omega))⟩
  have n2_ : Aside0 (Kd.S (Kd.slice 3 (Kd.int .i64)) 46 w8 w.heap.size (fun k_ => w3.heap.size ≤ k_ ∧ k_ < w4.heap.size) (.slice A4_ G.length c4_) G) := ⟨Kd.S_step HG.out (fun k_ h1_ hlt_ => hk_.2 k_ hlt_ (fun h2_ => by have := LE0.out; have := LE1.out; have := LE2.out; omega))⟩
  (try clear HB)
  (try clear HW)
  (try clear HY1)
  (try clear HX1)
  (try clear HG)
  have HB := n0_
  have HW := n1_
  have HG := n2_
  clear n0_ n1_ n2_
  clear hb_ hk_
  go_wp2_with fail
  refine (laws_eqIntSS.calls k _ _ G _ _ G true w8 (Kd.S_reads' HG.out).2.2 (Kd.S_reads' HG.out).2.1 (Kd.S_reads' HW.out).2.2 (Kd.S_reads' HW.out).2.1 HQ.out).mono ?_
  rintro e w9 ⟨rfl, hd_⟩
  have hb_ : Below w8.heap.size w8 w9 := (by first | exact hd_ | exact hd_.below)
  have n0_ : Aside0 (Below w.heap.size w w9) := ⟨below_step HB.out hb_⟩
  have n1_ : Aside0 (Kd.S (Kd.slice 3 (Kd.int .i64)) 46 w9 w.heap.size (fun k_ => w1.heap.size ≤ k_ ∧ k_ < w2.heap.size) (.slice A2_ G.length c2_) G) := ⟨Kd.S_below HW.out hb_⟩
  have n2_ : Aside0 (Kd.S (Kd.slice 3 (Kd.int .i64)) 46 w9 w.heap.size (fun k_ => w3.heap.size ≤ k_ ∧ k_ < w4.heap.size) (.slice A4_ G.length c4_) G) := ⟨Kd.S_below HG.out hb_⟩
  (try clear HB)
  (try clear HW)
  (try clear HG)
  have HB := n0_
  have HW := n1_
  have HG := n2_
  clear n0_ n1_ n2_
  clear hb_ hd_
  go_wp2_with fail
  refine (laws_markIntSS.calls k _ _ G 101 m Gm w w9 HB.out HG.out HMG.out).mono ?_
  rintro e w10 ⟨rfl, hx_, hb_, hk_⟩
  have n0_ : Aside0 (Below w.heap.size w w10) := ⟨hb_⟩
  have n1_ : Aside0 (Kd.S (Kd.slice 3 (Kd.int .i64)) 46 w10 w.heap.size (fun k_ => w1.heap.size ≤ k_ ∧ k_ < w2.heap.size) (.slice A2_ G.length c2_) G) := ⟨Kd.S_step HW.out (fun k_ h1_ hlt_ => hk_.2 k_ hlt_ (fun h2_ => by have := LE0.out; have := LE1.out; have := LE2.out; omega))⟩
  have m0_ : Aside0 (Kd.S (Kd.slice 3 (Kd.int .i64)) 46 w10 w.heap.size (fun k_ => True) (.slice A4_ G.length c4_) Gm) := ⟨by have h_ := Kd.S_mono hx_ (fun _ _ => trivial); rw [← HGm.out] at h_ ⊢; exact h_⟩
  (try clear HB)
  (try clear HW)
  (try clear HG)
  have HB := n0_
  have HW := n1_
  have HM := m0_
  clear n0_ n1_ m0_
  clear hx_ hb_ hk_
  go_wp2_with fail
  have hcall := laws_heldIntSS.calls k A4_ c4_ Gm 101 m w10 (Kd.S_reads' (by have h_ := HM.out; rw [← HGm.out] at h_; exact h_)).2.2 (Kd.S_reads' (by have h_ := HM.out; rw [← HGm.out] at h_; exact h_)).2.1 HHG.out
  rw [HGm.out] at hcall
  refine hcall.mono ?_
  clear hcall
  rintro e w11 ⟨rfl, hd_⟩
  have hb_ : Below w10.heap.size w10 w11 := (by first | exact hd_ | exact hd_.below)
  have n0_ : Aside0 (Below w.heap.size w w11) := ⟨below_step HB.out hb_⟩
  have n1_ : Aside0 (Kd.S (Kd.slice 3 (Kd.int .i64)) 46 w11 w.heap.size (fun k_ => w1.heap.size ≤ k_ ∧ k_ < w2.heap.size) (.slice A2_ G.length c2_) G) := ⟨Kd.S_below HW.out hb_⟩
  have n2_ : Aside0 (Kd.S (Kd.slice 3 (Kd.int .i64)) 46 w11 w.heap.size (fun k_ => True) (.slice A4_ G.length c4_) Gm) := ⟨Kd.S_below HM.out hb_⟩
  (try clear HB)
  (try clear HW)
  (try clear HM)
  have HB := n0_
  have HW := n1_
  have HM := n2_
  clear n0_ n1_ n2_
  clear hb_ hd_
  go_wp2_with fail
  refine (full_toIntS.calls k _ _ l1 true F1' w11 (Kd.C_below HR1.out HB.out) HC1.out HF1t.out).mono ?_
  rintro e w12 hp_
  obtain ⟨A12_, n12_, c12_, rfl, hR_, hn_, hb_⟩ := hp_
  have hq_ := Kd.R_reads' hR_
  obtain ⟨rfl, h131_, h132_⟩ := toTrueI F1 F1' l1 w12 A12_ n12_ c12_ HF01.out HF21.out HL1.out hq_.2.1 hq_.2.2 hn_
  have HU1 : Aside0 (l1.length ≤ c12_) := ⟨h132_⟩
  clear h132_
  have n0_ : Aside0 (Below w.heap.size w w12) := ⟨below_step HB.out hb_⟩
  have n1_ : Aside0 (Kd.S (Kd.slice 3 (Kd.int .i64)) 46 w12 w.heap.size (fun k_ => w1.heap.size ≤ k_ ∧ k_ < w2.heap.size) (.slice A2_ G.length c2_) G) := ⟨Kd.S_below HW.out hb_⟩
  have n2_ : Aside0 (Kd.S (Kd.slice 3 (Kd.int .i64)) 46 w12 w.heap.size (fun k_ => True) (.slice A4_ G.length c4_) Gm) := ⟨Kd.S_below HM.out hb_⟩
  have m0_ : Aside0 (Kd.C (Kd.int .i64) w12 A12_ l1.length l1) := ⟨h131_⟩
  (try clear HB)
  (try clear HW)
  (try clear HM)
  have HB := n0_
  have HW := n1_
  have HM := n2_
  have HT1 := m0_
  clear n0_ n1_ n2_ m0_
  clear hb_ hR_ hn_ hq_
  go_wp2_with fail
  refine (impl_HardestHouses.calls a0 _ _ l1 G r2 w12 HT1.out HU1.out H2.out).mono ?_
  rintro e w13 ⟨v_, rfl, ho_, hb_⟩
  obtain ⟨A13_, c13_, rfl⟩ := Kd.S_slice ho_
  have LE3 : Aside0 (w12.heap.size ≤ w13.heap.size) := ⟨hb_.size⟩
  have n0_ : Aside0 (Below w.heap.size w w13) := ⟨below_step HB.out hb_⟩
  have n1_ : Aside0 (Kd.S (Kd.slice 3 (Kd.int .i64)) 46 w13 w.heap.size (fun k_ => w1.heap.size ≤ k_ ∧ k_ < w2.heap.size) (.slice A2_ G.length c2_) G) := ⟨Kd.S_below HW.out hb_⟩
  have n2_ : Aside0 (Kd.S (Kd.slice 3 (Kd.int .i64)) 46 w13 w.heap.size (fun k_ => True) (.slice A4_ G.length c4_) Gm) := ⟨Kd.S_below HM.out hb_⟩
  have n3_ : Aside0 (Kd.C (Kd.int .i64) w13 A12_ l1.length l1) := ⟨Kd.C_below HT1.out hb_⟩
  have m0_ : Aside0 (Kd.S (Kd.slice 3 (Kd.int .i64)) 46 w13 w.heap.size (fun k_ => w12.heap.size ≤ k_ ∧ k_ < w13.heap.size) (.slice A13_ G.length c13_) G) := ⟨Kd.S_mono (Kd.S_lower (Kd.S_bound ho_) (below_size HB.out)) (fun k_ hk => ⟨hk.2.1, hk.2.2.1⟩)⟩
  (try clear HB)
  (try clear HW)
  (try clear HM)
  (try clear HT1)
  have HB := n0_
  have HW := n1_
  have HM := n2_
  have HT1 := n3_
  have HH := m0_
  clear n0_ n1_ n2_ n3_ m0_
  clear hb_ ho_
  go_wp2_with fail
  refine (laws_eqIntSS.calls k _ _ G _ _ G true w13 (Kd.S_reads' HH.out).2.2 (Kd.S_reads' HH.out).2.1 (Kd.S_reads' HW.out).2.2 (Kd.S_reads' HW.out).2.1 HQ.out).mono ?_
  rintro e w14 ⟨rfl, hd_⟩
  have hb_ : Below w13.heap.size w13 w14 := (by first | exact hd_ | exact hd_.below)
  have n0_ : Aside0 (Below w.heap.size w w14) := ⟨below_step HB.out hb_⟩
  have n1_ : Aside0 (Kd.S (Kd.slice 3 (Kd.int .i64)) 46 w14 w.heap.size (fun k_ => w1.heap.size ≤ k_ ∧ k_ < w2.heap.size) (.slice A2_ G.length c2_) G) := ⟨Kd.S_below HW.out hb_⟩
  have n2_ : Aside0 (Kd.S (Kd.slice 3 (Kd.int .i64)) 46 w14 w.heap.size (fun k_ => True) (.slice A4_ G.length c4_) Gm) := ⟨Kd.S_below HM.out hb_⟩
  have n3_ : Aside0 (Kd.C (Kd.int .i64) w14 A12_ l1.length l1) := ⟨Kd.C_below HT1.out hb_⟩
  have n4_ : Aside0 (Kd.S (Kd.slice 3 (Kd.int .i64)) 46 w14 w.heap.size (fun k_ => w12.heap.size ≤ k_ ∧ k_ < w13.heap.size) (.slice A13_ G.length c13_) G) := ⟨Kd.S_below HH.out hb_⟩
  (try clear HB)
  (try clear HW)
  (try clear HM)
  (try clear HT1)
  (try clear HH)
  have HB := n0_
  have HW := n1_
  have HM := n2_
  have HT1 := n3_
  have HH := n4_
  clear n0_ n1_ n2_ n3_ n4_
  clear hb_ hd_
  go_wp2_with fail
  have hcall := laws_heldIntSS.calls k A4_ c4_ Gm 101 m w14 (Kd.S_reads' (by have h_ := HM.out; rw [← HGm.out] at h_; exact h_)).2.2 (Kd.S_reads' (by have h_ := HM.out; rw [← HGm.out] at h_; exact h_)).2.1 HHG.out
  rw [HGm.out] at hcall
  refine hcall.mono ?_
  clear hcall
  rintro e w15 ⟨rfl, hd_⟩
  have hb_ : Below w14.heap.size w14 w15 := (by first | exact hd_ | exact hd_.below)
  have n0_ : Aside0 (Below w.heap.size w w15) := ⟨below_step HB.out hb_⟩
  have n1_ : Aside0 (Kd.S (Kd.slice 3 (Kd.int .i64)) 46 w15 w.heap.size (fun k_ => w1.heap.size ≤ k_ ∧ k_ < w2.heap.size) (.slice A2_ G.length c2_) G) := ⟨Kd.S_below HW.out hb_⟩
  have n2_ : Aside0 (Kd.S (Kd.slice 3 (Kd.int .i64)) 46 w15 w.heap.size (fun k_ => True) (.slice A4_ G.length c4_) Gm) := ⟨Kd.S_below HM.out hb_⟩
  have n3_ : Aside0 (Kd.C (Kd.int .i64) w15 A12_ l1.length l1) := ⟨Kd.C_below HT1.out hb_⟩
  have n4_ : Aside0 (Kd.S (Kd.slice 3 (Kd.int .i64)) 46 w15 w.heap.size (fun k_ => w12.heap.size ≤ k_ ∧ k_ < w13.heap.size) (.slice A13_ G.length c13_) G) := ⟨Kd.S_below HH.out hb_⟩
  (try clear HB)
  (try clear HW)
  (try clear HM)
  (try clear HT1)
  (try clear HH)
  have HB := n0_
  have HW := n1_
  have HM := n2_
  have HT1 := n3_
  have HH := n4_
  clear n0_ n1_ n2_ n3_ n4_
  clear hb_ hd_
  go_wp2
  go_ret
  exact ⟨rfl, HB.out⟩

set_option maxHeartbeats 8000000 in
set_option maxRecDepth 100000 in
theorem big_FnExactHardestHouses (a0 : Int) (A1 : Option Addr) (c1 : Nat) (l1 : List Int) (w : World) (hb : (l1.length : Int) > 1000000) (hm : (l1.length : Int) ≤ 9223372036854775807) :
    Calls Try.prog 13 #[.int .i64 a0, .slice A1 l1.length c1] w fun e w' => e = .returned (.bool true) ∧ Below w.heap.size w w' := by
  have dbig : decide ((l1.length : Int) > 1000000) = true := decide_eq_true hb
  have dbig2 : decide (1000000 < (l1.length : Int)) = true := decide_eq_true hb
  have dbig3 : decide (l1.length > 1000000) = true := decide_eq_true (by omega)
  clear hb hm
  go_enter Try.func13, Try.ntmps13
  go_wp2
  go_ret
  exact ⟨rfl, by repeat (first | exact Below.refl _ _ | apply below_drew1 | apply pw_below_drewN)⟩


end Go.Proofs.Ytoomacelbhojhaa.U
