/- Plain Lean functions with the answers of Go functions, and proofs of it: printed by a program of this session (pr.py) over the kit's print, with hand-written parts. -/
import Derived.Test.YtmakhnpjfdgocaaDoorPx0
import Derived.Test.YtmakhnpjfdgocaaDoorPx5
namespace Go.Proofs.YtmakhnpjfdgocaaDoor.P
open Go.RowKit Go.Proofs.YtmakhnpjfdgocaaDoorW.PrintWords Go.Proofs.YtmakhnpjfdgocaaDoorW.PrintLast Go.Proofs.YtmakhnpjfdgocaaDoorW.PrintMore
attribute [local go_sem] max2_int min2_int max_two min_two max_three min_three max_four min_four   -- for this text's walks alone
set_option linter.unusedVariables false
set_option linter.unusedSimpArgs false

-- FOR impl.puzzleText
-- KIND rounds=0 making=1
-- CALLS impl.numbersText
-- USES kd impl.Clue
-- USES info string

theorem C_lit3 (W : World) (a b c : Int) : Kd.C (Kd.int .i64) (W.alloc (.cells #[.int .i64 a, .int .i64 b, .int .i64 c] 3 (0, 0))) (some ⟨W.heap.size, 0, none⟩) 3 [a, b, c] := by
  refine Kd.C_of_reads (d := 0) ⟨rfl, by omega, fun _ => ⟨_, rfl, fun j hj => ?_⟩⟩
  rw [Hw.add_off]
  have h := blk_cell (blk_new W (.cells #[.int .i64 a, .int .i64 b, .int .i64 c] 3 (0, 0))) j
  rw [h]
  rcases j with _ | _ | _ | j
  · rfl
  · rfl
  · rfl
  · omega
theorem C_lit3b (W : World) (o : Obj) (a b c : Int) : Kd.C (Kd.int .i64) ((W.alloc o).alloc (.cells #[.int .i64 a, .int .i64 b, .int .i64 c] 3 (0, 0))) (some ⟨W.heap.size + 1, 0, none⟩) 3 [a, b, c] := by
  have h := C_lit3 (W.alloc o) a b c
  rw [show (W.alloc o).heap.size = W.heap.size + 1 from Array.size_push _] at h
  exact h
def smallCB (x : S49) : Bool := decide ((0 ≤ x.f0 ∧ x.f0 < 100) ∧ (0 ≤ x.f1 ∧ x.f1 < 100) ∧ (0 ≤ x.f2 ∧ x.f2 < 100))
def smallPz (fl : Int) (l : List S49) : Bool := decide (0 ≤ fl ∧ fl < 100) && decide (l.length ≤ 1000) && l.all smallCB
def cTxt (x : S49) : ByteArray := nTxt [x.f0, x.f1, x.f2] ⟨#[46]⟩
def jTxt (l : List S49) : ByteArray := ⟨(Lib.join ((l.map cTxt).map (·.data.toList)) [44]).toArray⟩
def pTxt (fl : Int) (l : List S49) : ByteArray := sItoa fl ++ ⟨#[102]⟩ ++ jTxt l
theorem small3 {x : S49} (h : smallCB x = true) : smallL [x.f0, x.f1, x.f2] := by
  have h := of_decide_eq_true h
  refine ⟨by simp, fun y hy => ?_⟩
  simp only [List.mem_cons, List.not_mem_nil, or_false] at hy
  rcases hy with rfl | rfl | rfl
  · exact h.1
  · exact h.2.1
  · exact h.2.2
theorem jTxt_len {l : List S49} (h1 : l.length ≤ 1000) (h2 : l.all smallCB = true) : (Lib.join ((l.map cTxt).map (·.data.toList)) [44]).length ≤ 10000 := by
  have h := join_len [44] 9 ((l.map cTxt).map (·.data.toList)) (fun y hy => by
    simp only [List.map_map, List.mem_map, Function.comp_def] at hy
    obtain ⟨x, hx, rfl⟩ := hy
    have := nTxt_len (small3 (List.all_eq_true.1 h2 x hx)) ⟨#[46]⟩
    exact Nat.le_trans this (Nat.le_of_eq rfl))
  simp only [List.length_map, List.length_cons, List.length_nil] at h
  have h3 : l.length * (0 + 1 + 9) ≤ 1000 * 10 := Nat.mul_le_mul h1 (by omega)
  omega
def impl_puzzleText.f (fl : Int) (l : List S49) : Option ByteArray := if smallPz fl l = true then some (pTxt fl l) else none
set_option maxHeartbeats 8000000 in
set_option maxRecDepth 100000 in
theorem impl_puzzleText.calls (fl : Int) (A : Option Addr) (c : Nat) (l : List S49) (r : ByteArray) (w : World) (hr : Kd.C k49 w A l.length l) (hc : l.length ≤ c) (h : impl_puzzleText.f fl l = some r) :
    Calls Tryd.prog 26 #[.agg #[.int .i64 fl, .slice A l.length c]] w fun e w' => e = .returned (.string r) ∧ Below w.heap.size w w' := by
  unfold impl_puzzleText.f at h
  by_cases hs : smallPz fl l = true
  case neg => rw [if_neg hs] at h; cases h
  rw [if_pos hs] at h
  obtain rfl := Option.some.inj h
  unfold smallPz at hs
  have hs1 := Bool.and_eq_true_iff.1 hs
  have hs2 := Bool.and_eq_true_iff.1 hs1.1
  have HP : Aside0 ((0 ≤ fl ∧ fl < 100) ∧ l.length ≤ 1000 ∧ l.all smallCB = true) := ⟨of_decide_eq_true hs2.1, of_decide_eq_true hs2.2, hs1.2⟩
  have HR := Aside0.mk hr
  have HC := Aside0.mk hc
  have HB := Aside0.mk (Below.refl w.heap.size w)
  have hu30 := Tryd.underlying30
  have hu41 := Tryd.underlying49
  clear hr hc h hs hs1 hs2
  go_enter Tryd.func26, Tryd.ntmps26
  go_wp2_with (first | ((with_reducible refine gate_dst (N := 1) rfl ?_); refine box_event ?hg (N := 1) ?hd (cs := #[.int .i64 fl, .slice A l.length c]) (t := 30) ?hr ?_; (case hd => rfl); (case hg => rfl); (case hr => first | (go_simp; done) | (go_simp; rfl)); intro gB1 hg_ w_gB1 BK_ hb_; have ORD_ : Aside0 ((True) ∧ (w.heap.size ≤ gB1)) := ⟨by refine ⟨trivial, ?_⟩; (have := HB.out.size); omega⟩; have ORD := ORD_; clear ORD_; have n0_ : Aside0 (Below w.heap.size w w_gB1) := ⟨Hx.bb_below hb_ (by first | exact HB.out | exact below_drew1 HB.out | exact pw_below_drewN HB.out _)⟩; have m0_ : Aside0 (w_gB1.heap[gB1]? = some (.cells #[.int .i64 fl, .slice A l.length c] 30 (0, 0))) := ⟨BK_⟩; (try clear HB); have HB := n0_; have B1 := m0_; clear n0_ m0_; have cB1_0 : w_gB1.cell? ⟨gB1, 0, none⟩ = some (.int .i64 fl) := (blk_cell B1.out 0).trans rfl; have dB1_0 := blk_frozen B1.out 0; have cB1_1 : w_gB1.cell? ⟨gB1, 1, none⟩ = some (.slice A l.length c) := (blk_cell B1.out 1).trans rfl; have dB1_1 := blk_frozen B1.out 1; clear hg_ BK_ hb_; have e1_ : (w_gB1.alloc (.cells #[] 9 (0, 0))).cell? ⟨gB1, 1, none⟩ = some (.slice A l.length c) := (blk_cell (blk_alloc B1.out _) 1).trans rfl))
  go_loopg [3, 5, 10] l.length (fun k v3 v5 v10 w' => ∃ b : Nat, v10 = .int .i64 (b : Int) ∧ Aside0 (b + k = l.length) ∧ Aside0 (Kd.R Kd.string 9 w' w.heap.size (fun _ => True) v3 ((l.take b).map cTxt)) ∧ Aside0 (w'.heap[gB1]? = some (.cells #[.int .i64 fl, .slice A l.length c] 30 (0, 0))) ∧ Aside0 (Below w.heap.size w w'))
  case atStart => exact ⟨0, rfl, ⟨by omega⟩, ⟨Hw.R_empty _ _ _ _ _ (by have := HB.out.size; first | exact this | (have h_ := this; exact h_)) trivial⟩, ⟨by first | exact B1.out | exact blk_alloc B1.out _⟩, ⟨by repeat (first | exact HB.out | refine below_alloc ?_ _)⟩⟩
  case round =>
    clear HB B1 cB1_0 dB1_0 cB1_1 dB1_1 e1_
    obtain ⟨b, rfl, HK, HO, B1, HB⟩ := hrel
    by_cases hlf : b < l.length
    · have d4 : decide ((b : Int) < (l.length : Int)) = true := decide_eq_true (by omega)
      have d5 : (b < l.length) = True := eq_true hlf
      obtain ⟨x, hx⟩ : ∃ x, x = rd_T49 l (b : Int) := ⟨_, rfl⟩
      have hg : l[b]? = some x := by rw [hx]; unfold rd_T49; rw [Int.toNat_natCast, List.getD_eq_getElem?_getD, List.getElem?_eq_getElem hlf]; rfl
      have HSL := Aside0.mk (small3 (List.all_eq_true.1 HP.out.2.2 x (List.mem_of_getElem? hg)))
      obtain ⟨ad, rfl, x0, x1, x2⟩ := at_T49 HR.out (b : Int) (by omega) (by omega)
      simp only [Int.toNat_natCast] at x0 x1 x2
      replace x0 := (HB.out.cell (World.block_lt_of_cell? w _ x0)).trans x0
      replace x1 := (HB.out.cell (World.block_lt_of_cell? w _ x1)).trans x1
      replace x2 := (HB.out.cell (World.block_lt_of_cell? w _ x2)).trans x2
      rw [← hx] at x0 x1 x2
      have wb : IntKind.i64.wrap ((b : Int) + 1) = ((b + 1 : Nat) : Int) := Hw.wrap_w (by omega) (by have := HP.out.2.1; omega)
      obtain ⟨xs, hxs⟩ : ∃ xs, xs = (l.take b).map cTxt := ⟨_, rfl⟩
      have hxl : xs.length = b := by rw [hxs]; simp; omega
      obtain ⟨ct, hct⟩ : ∃ ct, ct = cTxt x := ⟨_, rfl⟩
      have FN : Aside0 (∀ (W : World) (o : Obj), Calls Tryd.prog 48 #[.slice (some ⟨W.heap.size + 1, 0, none⟩) 3 3, .string ⟨#[46]⟩] ((W.alloc o).alloc (.cells #[.int .i64 x.f0, .int .i64 x.f1, .int .i64 x.f2] 3 (0, 0))) fun e w' => e = .returned (.string ct) ∧ Below ((W.alloc o).alloc (.cells #[.int .i64 x.f0, .int .i64 x.f1, .int .i64 x.f2] 3 (0, 0))).heap.size ((W.alloc o).alloc (.cells #[.int .i64 x.f0, .int .i64 x.f1, .int .i64 x.f2] 3 (0, 0))) w') := ⟨by
        intro W o
        rw [hct]
        exact numbersText.calls _ _ 3 [x.f0, x.f1, x.f2] ⟨#[46]⟩ (C_lit3b W o x.f0 x.f1 x.f2) (Nat.le_refl _) HSL.out (by decide)⟩
      obtain ⟨y, hy⟩ : ∃ y, y = xs ++ [ct] := ⟨_, rfl⟩
      have Ny := Aside0.mk hy
      have HY : Aside0 (y = (l.take (b + 1)).map cTxt) := ⟨by rw [hy, hxs, List.take_add_one, hg, hct]; simp⟩
      rw [← hxs] at HO
      have HXL : Aside0 (xs.length = b ∧ b < l.length ∧ l.length ≤ 1000) := ⟨hxl, hlf, HP.out.2.1⟩
      clear hlf hg hxs hxl hy hx hct
      go_wp2_with (first | ((with_reducible refine gate_callee (f := 48) rfl ?_); refine goesL_ (some 22) rfl rfl Tryd.func48 (by kernel_rfl) rfl #[.slice (some ⟨wr.heap.size + 1, 0, none⟩) 3 3, .string ⟨#[46]⟩] rfl (by (try simp only [List.map_toArray, List.map_cons, List.map_nil]); first | done | rfl) ?_; refine (FN.out wr _).mono ?_; rintro e_ w_6 ⟨rfl, hb_⟩; refine ⟨_, rfl, ?_⟩; have hd_ := Hx.bb_below hb_ (below_alloc (below_alloc (Below.refl wr.heap.size wr) _) _); have ho_ := Kd.R_below HO.out hd_; have hB := Hx.bb_below hd_ HB.out; have h1_ := Hx.b_below hd_ B1.out; clear HO HB B1; have HO := Aside0.mk ho_; have HB := Aside0.mk hB; have B1 := Aside0.mk h1_; clear ho_ hB h1_ hb_ hd_) | ((with_reducible refine gate_builtin (b := .append) (xs := #[.tmp 14, .tmp 23]) rfl ?_); at_builtin; refine Kd.R_append Kd.string (w0 := w) w.heap.size rfl (.tmp 14) (.tmp 23) 35 9 (.string ByteArray.empty) 16 rfl Tryd.underlying35 info9 rfl (by decide) (by omega) u3 xs (ct) [.string (ct)] (fun _ => True) (fun _ => False) rfl rfl ?aP (fun _ hk => hk.elim) ?aF ?aO ?aB ?aS ?aL ?_; (case aP => exact rfl); (case aB => exact (by repeat (first | (with_reducible first | exact HB.out | apply below_alloc | apply pw_below_drewN | apply below_drew1) | exact HB.out))); (case aF => exact (fun _ _ => trivial)); (case aO => exact (by (with_reducible repeat (first | apply Kd.R_alloc | apply Kd.R_drewN | apply Kd.R_drew)); exact HO.out)); (case aS => exact (below_size (by repeat (first | (with_reducible first | exact HB.out | apply below_alloc | apply pw_below_drewN | apply below_drew1) | exact HB.out)))); (case aL => have := HXL.out; omega); intro v2_ w_7 ho hb hg hat; rw [← Ny.out] at ho; have B1_ := Aside0.mk (blk_grown B1.out hg (Kd.R_ne HO.out B1.out (by decide))); clear B1; have B1 := B1_; clear B1_; clear HB HO; have HB := Aside0.mk hb; have HO := Aside0.mk ho; clear ho hb hg hat))
      go_roundg (l.length - (b + 1))
      case measure => have := HK.out; have := HXL.out; omega
      case rel => exact ⟨b + 1, rfl, ⟨by have := HK.out; have := HXL.out; omega⟩, ⟨by rw [← HY.out]; exact HO.out⟩, B1, HB⟩
    · have d4 : decide ((b : Int) < (l.length : Int)) = false := decide_eq_false (by omega)
      have d5 : (b < l.length) = False := eq_false hlf
      have hjl := jTxt_len HP.out.2.1 HP.out.2.2
      obtain ⟨s1, hs1⟩ : ∃ s1, s1 = sItoa fl := ⟨_, rfl⟩
      obtain ⟨s2, hs2⟩ : ∃ s2, s2 = jTxt l := ⟨_, rfl⟩
      have hz1 : s1.size ≤ 2 := by rw [hs1]; exact dig_len (n := fl.toNat) (by have := HP.out.1; omega)
      have hz2 : s2.size ≤ 10000 := by rw [hs2]; exact hjl
      have HJ : Aside0 (∀ W v, Kd.R Kd.string 9 W w.heap.size (fun _ => True) v ((l.take b).map cTxt) → Calls Tryd.prog 49 #[v, .string ⟨#[44]⟩] W fun e w' => e = .returned (.string s2) ∧ Below W.heap.size W w') := ⟨by
        intro W v hO
        rw [List.take_of_length_le (by omega)] at hO
        rw [hs2]
        have h_ := HP.out.2.1
        exact join_calls W _ v _ ⟨#[44]⟩ hO (Nat.le_trans hjl (by omega)) (by simp; omega)⟩
      have FC : Aside0 (∀ W, Calls Tryd.prog 34 #[.int .i64 fl] W fun e w' => e = .returned (.string s1) ∧ w' = W) := ⟨by
        intro W
        have h_ := Tryd.strconv_Itoa_small fl.toNat (by have := HP.out.1; omega) W
        rw [Int.toNat_of_nonneg HP.out.1.1] at h_
        rw [hs1]
        exact h_⟩
      have z1 : (9223372036854775807 < s1.size + 1) = False := eq_false (by omega)
      have z2 : (9223372036854775807 < s1.size + 1 + s2.size) = False := eq_false (by omega)
      have c0_ : wr.cell? ⟨gB1, 0, none⟩ = some (.int .i64 fl) := (blk_cell B1.out 0).trans rfl
      have HFin : Aside0 (pTxt fl l = s1 ++ ⟨#[102]⟩ ++ s2) := ⟨by rw [hs1, hs2]; rfl⟩
      clear hlf hjl hs1 hs2 hz1 hz2
      go_wp2_with (first | ((with_reducible refine gate_callee (f := 34) rfl ?_); refine goesL_ (some 28) rfl rfl Tryd.func34 (by kernel_rfl) rfl #[.int .i64 fl] rfl (by (try simp only [List.map_toArray, List.map_cons, List.map_nil]); first | done | rfl) ?_; refine (FC.out _).mono ?_; rintro e_ w_1 ⟨rfl, rfl⟩; refine ⟨_, rfl, ?_⟩; skip) | ((with_reducible refine gate_callee (f := 49) rfl ?_); refine goesL_ (some 31) rfl rfl Tryd.func49 (by kernel_rfl) rfl #[u3, .string ⟨#[44]⟩] rfl (by (try simp only [List.map_toArray, List.map_cons, List.map_nil]); first | done | rfl) ?_; refine (HJ.out _ _ HO.out).mono ?_; rintro e_ w_2 ⟨rfl, hb_⟩; refine ⟨_, rfl, ?_⟩; have hB := Hx.bb_below hb_ HB.out; clear HB; have HB := Aside0.mk hB; clear hB hb_))
      go_ret
      exact ⟨by rw [HFin.out]; rfl, HB.out⟩


-- FOR impl.ParsePuzzle
-- CALLS impl.readNumbers ; impl.IsPuzzle ; impl.puzzleText
-- USES kd impl.Clue
-- USES info impl.Clue
-- USES info int
/-! ### What ParsePuzzle reads, plain -/
def dot46 : ByteArray := ⟨#[46]⟩
def com44 : ByteArray := ⟨#[44]⟩
def eff102 : ByteArray := ⟨#[102]⟩
/-- The clues of the words; none if one is no clue's text. -/
def rdC : List ByteArray → Option (List S49)
  | [] => some []
  | x :: r => match rdW (wrds x dot46) with
    | some [a, b, c] => (rdC r).map ((⟨a, b, c⟩ : S49) :: ·)
    | _ => none
def ppWords (rest : ByteArray) : List ByteArray := if rest.size = 0 then [] else Lib.splitB com44 0 (min 8 (rest.size + 1) - 1) rest
def ppHead (s : ByteArray) : ByteArray := ⟨(Lib.cut s.data.toList [102]).1.toArray⟩
def ppRest (s : ByteArray) : ByteArray := ⟨(Lib.cut s.data.toList [102]).2.1.toArray⟩
def ppRead (s : ByteArray) : Option (Int × List S49) := if (Lib.cut s.data.toList [102]).2.2 = true then (match Lib.atoiAll (ppHead s).data.toList with
  | .ok v => (rdC (ppWords (ppRest s))).map fun l => (v, l)
  | _ => none) else none
theorem rdC_snoc (x : ByteArray) : ∀ (l : List ByteArray) (xs : List S49), rdC l = some xs → rdC (l ++ [x]) = (rdC [x]).map (xs ++ ·)
  | [], xs, h => by
    cases h
    simp only [List.nil_append]
    cases rdC [x] <;> rfl
  | y :: l, xs, h => by
    rw [rdC] at h
    rw [List.cons_append, rdC]
    split at h
    · obtain ⟨ys, h3, rfl⟩ := Option.map_eq_some_iff.1 h
      rename_i a b c hw
      rw [rdC_snoc x l ys h3]
      cases rdC [x] <;> rfl
    · cases h
theorem rdC_none (r : List ByteArray) : ∀ (l : List ByteArray), rdC l = none → rdC (l ++ r) = none
  | [], h => by cases h
  | y :: l, h => by
    rw [rdC] at h
    rw [List.cons_append, rdC]
    split at h
    · rename_i a b c hw
      have : rdC l = none := by cases hr : rdC l with | none => rfl | some z => rw [hr] at h; cases h
      rw [rdC_none r l this]
      rfl
    · rfl
theorem rdC_len : ∀ (l : List ByteArray) (xs : List S49), rdC l = some xs → xs.length = l.length
  | [], xs, h => by cases h; rfl
  | y :: l, xs, h => by
    rw [rdC] at h
    split at h
    · obtain ⟨ys, h3, rfl⟩ := Option.map_eq_some_iff.1 h
      simp [rdC_len l ys h3]
    · cases h
theorem cut_calls (w : World) (hP : PW w) (s : ByteArray) (hs : s.size ≤ 1000000) :
    Calls Tryd.prog 22 #[.string s, .string ⟨#[102]⟩] w fun e w' => e = .returned (.tuple #[.string (ppHead s), .string (ppRest s), .bool (Lib.cut s.data.toList [102]).2.2]) ∧ Below w.heap.size w w' := by
  obtain ⟨m, hm⟩ := hP.len
  refine (Tryd.strings_Cut s ⟨#[102]⟩ m w (by omega) hm).mono ?_
  rintro e w' ⟨rfl, n, rfl⟩
  exact ⟨rfl, pw_below_drewN (Below.refl _ _) n⟩
theorem atoi_any (w : World) (hP : PW w) (s : ByteArray) (hs : s.size ≤ 1000000) :
    Calls Tryd.prog 23 #[.string s] w fun e w' => (∃ n ev, e = .returned (.tuple #[.int .i64 n, ev])) ∧ Below w.heap.size w w' := by
  by_cases h : ∃ v, Lib.atoiAll s.data.toList = .ok v
  · obtain ⟨v, hv⟩ := h
    exact (atoi_ok w s hs v hv).mono fun e w' hh => ⟨⟨_, _, hh.1⟩, hh.2⟩
  · refine (atoi_bad w hP s hs (fun v hv => h ⟨v, hv⟩)).mono ?_
    rintro e w' ⟨⟨n, t, p, rfl⟩, hb⟩
    exact ⟨⟨_, _, rfl⟩, hb⟩
theorem splitN_calls (w : World) (hP : PW w) (s : ByteArray) (hs : s.size ≤ 1000000) (h0 : s.size ≠ 0) :
    Calls Tryd.prog 24 #[.string s, .string ⟨#[44]⟩, .int .i64 8] w fun e w' => (∃ c, e = .returned (.slice (some ⟨w.heap.size, 0, none⟩) (ppWords s).length c)) ∧ (∃ cs : Array Value, w'.heap[w.heap.size]? = some (.cells cs 9 (0, 0)) ∧ ∀ (j : Nat) (x : ByteArray), (ppWords s)[j]? = some x → cs[j]? = some (Value.string x)) ∧ Below w.heap.size w w' := by
  obtain ⟨m, hm⟩ := hP.len
  have hw : ppWords s = Lib.splitB com44 0 (min 8 (s.size + 1) - 1) s := by unfold ppWords; rw [if_neg h0]
  refine (Tryd.strings_SplitN s ⟨#[44]⟩ 8 m w (by omega) hm (by decide) (by omega) (by omega)).mono ?_
  rintro e w' ⟨rfl, rfl⟩
  refine ⟨⟨_, by rw [hw]; rfl⟩, ⟨_, blk_new _ _, fun j x hj => ?_⟩, below_alloc (Below.refl _ _) _⟩
  rw [hw] at hj
  unfold com44 at hj
  unfold Lib.cellsOf
  rw [List.getElem?_toArray, List.getElem?_append_left (by rw [List.length_map]; exact (List.getElem?_eq_some_iff.1 hj).1), List.getElem?_map, hj]
  rfl
theorem ppWords_size (s x : ByteArray) (h : x ∈ ppWords s) : x.size ≤ s.size := by
  unfold ppWords at h
  split at h
  · cases h
  · exact splitB_size com44 _ s x h
theorem ppWords_len (s : ByteArray) : (ppWords s).length ≤ 8 := by
  unfold ppWords
  split
  · simp
  · have := Lib.splitB_length_le com44 0 (min 8 (s.size + 1) - 1) s
    omega
theorem clue_small {fl : Int} (x : S49) (h : isClueB fl x = true) : smallCB x = true := by
  have h0 := isClue_some fl x.f0 x.f1 x.f2
  have h1 : impl_IsClue.f fl x.f0 x.f1 x.f2 = some true := by rw [h0]; exact congrArg some h
  unfold smallCB
  unfold impl_IsClue.f impl_isHiddenHouse.f impl_isEggs.f impl_isBreak.f impl_within.f at h1
  refine decide_eq_true ?_
  simp only [Option.bind_some, ge_iff_le] at h1
  repeat' split at h1
  all_goals (try (simp at h1; done))
  all_goals (simp only [Option.bind_some] at h1)
  all_goals (repeat' split at h1)
  all_goals (try (simp at h1; done))
  all_goals (simp only [Option.some.injEq, decide_eq_true_eq] at h1)
  all_goals (try omega)
  all_goals (simp only [decide_eq_true_eq] at *)
  all_goals (first | omega | (rw [Hw.wrap_id (by omega) (by omega)] at h1; omega))
theorem puz_small {fl : Int} {L : List S49} (h : impl_IsPuzzle.f fl L = some true) : smallPz fl L = true := by
  unfold impl_IsPuzzle.f at h
  have h := Option.some.inj h
  simp only [Bool.and_eq_true, decide_eq_true_eq, List.all_eq_true] at h
  unfold smallPz
  simp only [Bool.and_eq_true, decide_eq_true_eq, List.all_eq_true]
  exact ⟨⟨by omega, by omega⟩, fun x hx => clue_small x (h.2 x hx)⟩

def ppV (s : ByteArray) : (Int × List S49) × Bool := match ppRead s with
  | some (v, l) => if impl_IsPuzzle.f v l = some true ∧ pTxt v l = s then ((v, l), true) else ((0, []), false)
  | none => ((0, []), false)
set_option maxHeartbeats 8000000 in
set_option maxRecDepth 100000 in
theorem parsePuzzle.bad (w : World) (hP : PW w) (s : ByteArray) (hs : s.size ≤ 1000000) (hh : (ppHead s).size ≤ 1000000) (hbad : (Lib.cut s.data.toList [102]).2.2 = false ∨ ((Lib.cut s.data.toList [102]).2.2 = true ∧ ∀ v, Lib.atoiAll (ppHead s).data.toList ≠ .ok v)) :
    Calls Tryd.prog 11 #[.string s] w fun e w' => e = .returned (.tuple #[.agg #[.int .i64 0, .slice none 0 0], .bool false]) ∧ Below w.heap.size w w' := by
  have hu30 := Tryd.underlying30
  have HCut : Aside0 (∀ W, Below w.heap.size w W → _) := ⟨fun W hW => cut_calls W (hP.below hW) s hs⟩
  obtain ⟨hd, hhd⟩ : ∃ x, x = ppHead s := ⟨_, rfl⟩
  obtain ⟨rs, hrs⟩ : ∃ x, x = ppRest s := ⟨_, rfl⟩
  rw [← hhd] at HCut hh hbad
  rw [← hrs] at HCut
  have HB := Aside0.mk (Below.refl w.heap.size w)
  rcases hbad with hb | ⟨hb, hv⟩
  · have HAt : Aside0 (∀ W, Below w.heap.size w W → _) := ⟨fun W hW => atoi_any W (hP.below hW) hd hh⟩
    rw [hb] at HCut
    clear hP hs hh hhd hrs hb
    go_enter Tryd.func11, Tryd.ntmps11
    go_wp2_with (first | ((with_reducible refine gate_dst (N := 2) rfl ?_); refine box_event ?hg (N := 2) ?hd (cs := #[.int .i64 0, .slice none 0 0]) (t := 30) ?hr ?_; (case hd => rfl); (case hg => rfl); (case hr => first | (go_simp; done) | (go_simp; rfl)); intro gB2 hg_ w_gB2 BK_ hb_; have ORD_ : Aside0 ((True) ∧ (w.heap.size ≤ gB2)) := ⟨by refine ⟨trivial, ?_⟩; (have := HB.out.size); omega⟩; have ORD := ORD_; clear ORD_; have n0_ : Aside0 (Below w.heap.size w w_gB2) := ⟨Hx.bb_below hb_ (by first | exact HB.out | exact below_drew1 HB.out | exact pw_below_drewN HB.out _)⟩; have m0_ : Aside0 (w_gB2.heap[gB2]? = some (.cells #[.int .i64 0, .slice none 0 0] 30 (0, 0))) := ⟨BK_⟩; (try clear HB); have HB := n0_; have B2 := m0_; clear n0_ m0_; clear hg_ BK_ hb_) | ((with_reducible refine gate_callee (f := 22) rfl ?_); refine goesL_ (some 16) rfl rfl Tryd.func22 (by kernel_rfl) rfl #[.string s, .string ⟨#[102]⟩] rfl (by (try simp only [List.map_toArray, List.map_cons, List.map_nil]); first | done | rfl) ?_; refine (HCut.out _ HB.out).mono ?_; rintro e_ w_1 ⟨rfl, hb_⟩; refine ⟨_, rfl, ?_⟩; have hB_ := Hx.bb_below hb_ HB.out; have h2_ := Hx.b_below hb_ B2.out; clear HB B2; have HB := Aside0.mk hB_; have B2 := Aside0.mk h2_; clear hB_ h2_ hb_) | ((with_reducible refine gate_callee (f := 23) rfl ?_); refine goesL_ (some 22) rfl rfl Tryd.func23 (by kernel_rfl) rfl #[.string hd] rfl (by (try simp only [List.map_toArray, List.map_cons, List.map_nil]); first | done | rfl) ?_; refine (HAt.out _ HB.out).mono ?_; rintro e_ w_2 ⟨⟨n_, ev_, rfl⟩, hb_⟩; refine ⟨_, rfl, ?_⟩; have hB_ := Hx.bb_below hb_ HB.out; have h2_ := Hx.b_below hb_ B2.out; clear HB B2; have HB := Aside0.mk hB_; have B2 := Aside0.mk h2_; clear hB_ h2_ hb_; have c2_0 : w_2.cell? ⟨gB2, 0, none⟩ = some (.int .i64 0) := (blk_cell B2.out 0).trans rfl; have d2_0 := blk_frozen B2.out 0; have c2_1 : w_2.cell? ⟨gB2, 1, none⟩ = some (.slice none 0 0) := (blk_cell B2.out 1).trans rfl; have d2_1 := blk_frozen B2.out 1))
    exact bodyPost_ret (v := .tuple #[.agg #[.int .i64 0, .slice none 0 0], .bool false]) (by simp [results, Tryd.results11, go_sem, c2_0, c2_1]) rfl ⟨rfl, below_set (below_set HB.out (by have := ORD.out; omega)) (by have := ORD.out; omega)⟩
  · have HAt : Aside0 (∀ W, Below w.heap.size w W → _) := ⟨fun W hW => atoi_bad W (hP.below hW) hd hh hv⟩
    rw [hb] at HCut
    clear hP hs hh hhd hrs hb hv
    go_enter Tryd.func11, Tryd.ntmps11
    go_wp2_with (first | ((with_reducible refine gate_dst (N := 2) rfl ?_); refine box_event ?hg (N := 2) ?hd (cs := #[.int .i64 0, .slice none 0 0]) (t := 30) ?hr ?_; (case hd => rfl); (case hg => rfl); (case hr => first | (go_simp; done) | (go_simp; rfl)); intro gB2 hg_ w_gB2 BK_ hb_; have ORD_ : Aside0 ((True) ∧ (w.heap.size ≤ gB2)) := ⟨by refine ⟨trivial, ?_⟩; (have := HB.out.size); omega⟩; have ORD := ORD_; clear ORD_; have n0_ : Aside0 (Below w.heap.size w w_gB2) := ⟨Hx.bb_below hb_ (by first | exact HB.out | exact below_drew1 HB.out | exact pw_below_drewN HB.out _)⟩; have m0_ : Aside0 (w_gB2.heap[gB2]? = some (.cells #[.int .i64 0, .slice none 0 0] 30 (0, 0))) := ⟨BK_⟩; (try clear HB); have HB := n0_; have B2 := m0_; clear n0_ m0_; clear hg_ BK_ hb_) | ((with_reducible refine gate_callee (f := 22) rfl ?_); refine goesL_ (some 16) rfl rfl Tryd.func22 (by kernel_rfl) rfl #[.string s, .string ⟨#[102]⟩] rfl (by (try simp only [List.map_toArray, List.map_cons, List.map_nil]); first | done | rfl) ?_; refine (HCut.out _ HB.out).mono ?_; rintro e_ w_1 ⟨rfl, hb_⟩; refine ⟨_, rfl, ?_⟩; have hB_ := Hx.bb_below hb_ HB.out; have h2_ := Hx.b_below hb_ B2.out; clear HB B2; have HB := Aside0.mk hB_; have B2 := Aside0.mk h2_; clear hB_ h2_ hb_) | ((with_reducible refine gate_callee (f := 23) rfl ?_); refine goesL_ (some 22) rfl rfl Tryd.func23 (by kernel_rfl) rfl #[.string hd] rfl (by (try simp only [List.map_toArray, List.map_cons, List.map_nil]); first | done | rfl) ?_; refine (HAt.out _ HB.out).mono ?_; rintro e_ w_2 ⟨⟨n_, t_, p_, rfl⟩, hb_⟩; refine ⟨_, rfl, ?_⟩; have hB_ := Hx.bb_below hb_ HB.out; have h2_ := Hx.b_below hb_ B2.out; clear HB B2; have HB := Aside0.mk hB_; have B2 := Aside0.mk h2_; clear hB_ h2_ hb_; have c2_0 : w_2.cell? ⟨gB2, 0, none⟩ = some (.int .i64 0) := (blk_cell B2.out 0).trans rfl; have d2_0 := blk_frozen B2.out 0; have c2_1 : w_2.cell? ⟨gB2, 1, none⟩ = some (.slice none 0 0) := (blk_cell B2.out 1).trans rfl; have d2_1 := blk_frozen B2.out 1))
    exact bodyPost_ret (v := .tuple #[.agg #[.int .i64 0, .slice none 0 0], .bool false]) (by simp [results, Tryd.results11, go_sem, c2_0, c2_1]) rfl ⟨rfl, below_set (below_set HB.out (by have := ORD.out; omega)) (by have := ORD.out; omega)⟩

theorem R_set2 {α : Type} {d : Kd α} {e base g t : Nat} {w : World} {ok : Nat → Prop} {v : Value} {xs : List α} {cells : Array Value} (h : d.R e w base ok v xs) (hb : w.heap[g]? = some (.cells cells t (0, 0))) (ht : ∀ q, q ∈ e :: d.E → q ≠ t) (a b : Value) :
    d.R e ((w.setCell ⟨g, 0, none⟩ a).setCell ⟨g, 1, none⟩ b) base ok v xs :=
  Kd.R_mono (Kd.R_far (p := ⟨g, 1, none⟩) (Kd.R_far (p := ⟨g, 0, none⟩) (Kd.R_types h hb ht) (fun _ hk => hk.2) a) (fun _ hk => hk.2) b) (fun _ hk => hk.1)
set_option maxHeartbeats 16000000 in
set_option maxRecDepth 1000000 in
theorem parsePuzzle.good (w : World) (hP : PW w) (s : ByteArray) (hs : s.size ≤ 1000000) (hh : (ppHead s).size ≤ 1000000) (hr : (ppRest s).size ≤ 1000000) (hb : (Lib.cut s.data.toList [102]).2.2 = true) (v : Int) (hv : Lib.atoiAll (ppHead s).data.toList = .ok v) (h0 : (ppRest s).size ≠ 0) :
    Calls Tryd.prog 11 #[.string s] w fun e w' => ∃ vv, e = .returned (.tuple #[.agg #[.int .i64 (ppV s).1.1, vv], .bool (ppV s).2]) ∧ Kd.R k49 49 w' w.heap.size (fun _ => True) vv (ppV s).1.2 ∧ Below w.heap.size w w' := by
  have hu30 := Tryd.underlying30
  have HCut : Aside0 (∀ W, Below w.heap.size w W → _) := ⟨fun W hW => cut_calls W (hP.below hW) s hs⟩
  obtain ⟨hd, hhd⟩ : ∃ x, x = ppHead s := ⟨_, rfl⟩
  obtain ⟨rs, hrs⟩ : ∃ x, x = ppRest s := ⟨_, rfl⟩
  have hpr : ppRead s = (rdC (ppWords rs)).map fun l => (v, l) := by unfold ppRead; rw [if_pos hb, hv, hrs]
  rw [← hhd] at HCut hh hv
  rw [← hrs] at HCut hr h0
  rw [hb] at HCut
  have HAt : Aside0 (∀ W, _) := ⟨fun W => atoi_ok W hd hh v hv⟩
  have HSp : Aside0 (∀ W, Below w.heap.size w W → _) := ⟨fun W hW => splitN_calls W (hP.below hW) rs hr h0⟩
  have HRx : Aside0 (∀ (x : ByteArray), x.size ≤ 1000000 → ∀ W, Below w.heap.size w W → _) := ⟨fun x hx W hW => readNumbers.calls W (hP.below hW) x dot46 hx (by decide)⟩
  have HWs : Aside0 (∀ x ∈ ppWords rs, x.size ≤ 1000000) := ⟨fun x hx => Nat.le_trans (ppWords_size rs x hx) hr⟩
  have HWl := Aside0.mk (ppWords_len rs)
  obtain ⟨ws, hws⟩ : ∃ ws, ws = ppWords rs := ⟨_, rfl⟩
  rw [← hws] at HSp HWs HWl hpr
  have HPr := Aside0.mk hpr
  have q0 : rs.toList.isEmpty = false := by
    rw [ByteArray.toList_eq]
    cases hq : rs.data.toList with
    | nil => exact absurd (by show rs.data.size = 0; rw [← Array.length_toList, hq]; rfl) h0
    | cons _ _ => rfl
  have HB := Aside0.mk (Below.refl w.heap.size w)
  clear hP hs hh hr hb hv h0 hhd hrs hpr hws
  go_enter Tryd.func11, Tryd.ntmps11
  go_wp2_with (first | ((with_reducible refine gate_dst (N := 2) rfl ?_); refine box_event ?hg (N := 2) ?hd (cs := #[.int .i64 0, .slice none 0 0]) (t := 30) ?hr ?_; (case hd => rfl); (case hg => rfl); (case hr => first | (go_simp; done) | (go_simp; rfl)); intro gB2 hg_ w_gB2 BK_ hb_; have ORD_ : Aside0 ((True) ∧ (w.heap.size ≤ gB2)) := ⟨by refine ⟨trivial, ?_⟩; (have := HB.out.size); omega⟩; have ORD := ORD_; clear ORD_; have n0_ : Aside0 (Below w.heap.size w w_gB2) := ⟨Hx.bb_below hb_ (by first | exact HB.out | exact below_drew1 HB.out | exact pw_below_drewN HB.out _)⟩; have m0_ : Aside0 (w_gB2.heap[gB2]? = some (.cells #[.int .i64 0, .slice none 0 0] 30 (0, 0))) := ⟨BK_⟩; (try clear HB); have HB := n0_; have B2 := m0_; clear n0_ m0_; clear hg_ BK_ hb_) | ((with_reducible refine gate_callee (f := 22) rfl ?_); refine goesL_ (some 16) rfl rfl Tryd.func22 (by kernel_rfl) rfl #[.string s, .string ⟨#[102]⟩] rfl (by (try simp only [List.map_toArray, List.map_cons, List.map_nil]); first | done | rfl) ?_; refine (HCut.out _ HB.out).mono ?_; rintro e_ w_1 ⟨rfl, hb_⟩; refine ⟨_, rfl, ?_⟩; have hB_ := Hx.bb_below hb_ HB.out; have h2_ := Hx.b_below hb_ B2.out; clear HB B2; have HB := Aside0.mk hB_; have B2 := Aside0.mk h2_; clear hB_ h2_ hb_) | ((with_reducible refine gate_callee (f := 23) rfl ?_); refine goesL_ (some 22) rfl rfl Tryd.func23 (by kernel_rfl) rfl #[.string hd] rfl (by (try simp only [List.map_toArray, List.map_cons, List.map_nil]); first | done | rfl) ?_; refine (HAt.out _).mono ?_; rintro e_ w_2 ⟨rfl, hb_⟩; refine ⟨_, rfl, ?_⟩; have u0_ := Hx.bb_below hb_ HB.out; have u1_ := Hx.b_below hb_ B2.out; clear HB B2; have HB := Aside0.mk u0_; have B2 := Aside0.mk u1_; clear hb_ u0_ u1_) | ((with_reducible refine gate_dst (N := 9) rfl ?_); refine box_event ?hg (N := 9) ?hd (cs := #[.int .i64 0, .slice none 0 0]) (t := 30) ?hr ?_; (case hd => rfl); (case hg => rfl); (case hr => first | (go_simp; done) | (go_simp; rfl)); intro gB9 hg_ w_gB9 BK_ hb_; have ORD_ : Aside0 (((True) ∧ (w.heap.size ≤ gB2)) ∧ (gB2 < gB9 ∧ w.heap.size ≤ gB9)) := ⟨by refine ⟨ORD.out, ?_⟩; (have := HB.out.size); (have := blk_lt B2.out); omega⟩; clear ORD; have ORD := ORD_; clear ORD_; have n0_ : Aside0 (Below w.heap.size w w_gB9) := ⟨Hx.bb_below hb_ (by first | exact HB.out | exact below_drew1 HB.out | exact pw_below_drewN HB.out _)⟩; have n1_ : Aside0 (w_gB9.heap[gB2]? = some (.cells #[.int .i64 0, .slice none 0 0] 30 (0, 0))) := ⟨Hx.b_below hb_ B2.out⟩; have m0_ : Aside0 (w_gB9.heap[gB9]? = some (.cells #[.int .i64 0, .slice none 0 0] 30 (0, 0))) := ⟨BK_⟩; (try clear HB); (try clear B2); have HB := n0_; have B2 := n1_; have B9 := m0_; clear n0_ n1_ m0_; have cB9_0 : w_gB9.cell? ⟨gB9, 0, none⟩ = some (.int .i64 0) := (blk_cell B9.out 0).trans rfl; have dB9_0 := blk_frozen B9.out 0; have cB9_1 : w_gB9.cell? ⟨gB9, 1, none⟩ = some (.slice none 0 0) := (blk_cell B9.out 1).trans rfl; have dB9_1 := blk_frozen B9.out 1; clear hg_ BK_ hb_) | ((with_reducible refine gate_store (t := 30) (p := 9) rfl ?_); refine store_event (t := 30) (p := 9) (v := ?vo_wS) (w1 := (((w_gB9).setCell ⟨gB9, 0, none⟩ (.int .i64 v)).setCell ⟨gB9, 1, none⟩ (.slice none 0 0))) ?hg ?ho ?hn ?hr ?_; (case ho => rfl); (case hg => rfl); (case hn => rfl); (case hr => first | (go_simp; done) | (go_simp; rfl)); intro w_S hw_; have e0_ : gB2 ≠ gB9 := (by have := ORD.out; omega); have n0_ : Aside0 (Below w.heap.size w w_S) := ⟨by rw [hw_]; exact below_set (g := gB9) (below_set (g := gB9) HB.out (by have := ORD.out; omega)) (by have := ORD.out; omega)⟩; have n1_ : Aside0 (w_S.heap[gB2]? = some (.cells #[.int .i64 0, .slice none 0 0] 30 (0, 0))) := ⟨by rw [hw_]; exact blk_far (blk_far B2.out e0_ _) e0_ _⟩; have n2_ : Aside0 (w_S.heap[gB9]? = some (.cells #[.int .i64 v, .slice none 0 0] 30 (0, 0))) := ⟨by rw [hw_]; exact blk_put (blk_put B9.out 0 _ rfl) 1 _ rfl⟩; (try clear cB9_0 dB9_0 cB9_1 dB9_1); (try clear HB); (try clear B2); (try clear B9); have HB := n0_; have B2 := n1_; have B9 := n2_; clear n0_ n1_ n2_; have cB9_0 : w_S.cell? ⟨gB9, 0, none⟩ = some (.int .i64 v) := (blk_cell B9.out 0).trans rfl; have dB9_0 := blk_frozen B9.out 0; have cB9_1 : w_S.cell? ⟨gB9, 1, none⟩ = some (.slice none 0 0) := (blk_cell B9.out 1).trans rfl; have dB9_1 := blk_frozen B9.out 1; clear hw_ e0_) | ((with_reducible refine gate_callee (f := 24) rfl ?_); refine goesL_ (some 37) rfl rfl Tryd.func24 (by kernel_rfl) rfl #[.string rs, .string ⟨#[44]⟩, .int .i64 8] rfl (by (try simp only [List.map_toArray, List.map_cons, List.map_nil]); first | done | rfl) ?_; refine (HSp.out _ HB.out).mono ?_; rintro e_ w_3 ⟨⟨c_, rfl⟩, ⟨wcs, hg_, hgc_⟩, hb_⟩; refine ⟨_, rfl, ?_⟩; obtain ⟨gs, hgs⟩ : ∃ gs, gs = w_S.heap.size := ⟨_, rfl⟩; rw [← hgs] at hg_ ⊢; have HG := Aside0.mk hg_; have HGC := Aside0.mk hgc_; clear hg_ hgc_ hgs; have u0_ := Hx.bb_below hb_ HB.out; have u1_ := Hx.b_below hb_ B2.out; have u2_ := Hx.b_below hb_ B9.out; clear HB B2 B9; have HB := Aside0.mk u0_; have B2 := Aside0.mk u1_; have B9 := Aside0.mk u2_; clear hb_ u0_ u1_ u2_))
  go_loopg [11, 12, 13, 39] ws.length (fun k v11 v12 v13 v39 w' => ∃ (b : Nat) (xs : List S49) (vv : Value), v39 = .int .i64 (b : Int) ∧ Aside0 (b + k = ws.length) ∧ Aside0 (rdC (ws.take b) = some xs) ∧ Aside0 (w'.heap[gB9]? = some (.cells #[.int .i64 v, vv] 30 (0, 0))) ∧ Aside0 (w'.heap[gB2]? = some (.cells #[.int .i64 0, .slice none 0 0] 30 (0, 0))) ∧ Aside0 (w'.heap[gs]? = some (.cells wcs 9 (0, 0))) ∧ Aside0 (Kd.R k49 49 w' w.heap.size (fun _ => True) vv xs) ∧ Aside0 (Below w.heap.size w w'))
  case atStart => exact ⟨0, [], _, rfl, ⟨by omega⟩, ⟨rfl⟩, B9, B2, HG, ⟨Kd.R_nil _ _ _ _ _⟩, HB⟩
  case round =>
    clear B9 B2 HG HB
    obtain ⟨b, xs, vv, rfl, HK, HX, B9, B2, HG, HO, HB⟩ := hrel
    by_cases hlf : b < ws.length
    · have d4 : decide ((b : Int) < (ws.length : Int)) = true := decide_eq_true (by omega)
      have d5 : (b < ws.length) = True := eq_true hlf
      obtain ⟨x, hx⟩ : ∃ x, x = ws[b] := ⟨_, rfl⟩
      have hg : ws[b]? = some x := by rw [hx, List.getElem?_eq_getElem hlf]
      have c0 : wr.cell? ⟨gs, b, none⟩ = some (.string x) := (blk_cell HG.out b).trans (HGC.out b x hg)
      have hxs := HWs.out x (List.mem_of_getElem? hg)
      have wb : IntKind.i64.wrap ((b : Int) + 1) = ((b + 1 : Nat) : Int) := Hw.wrap_w (by omega) (by have := HWl.out; omega)
      have htk : ws.take (b + 1) = ws.take b ++ [x] := by rw [List.take_add_one, hg]; rfl
      have hxl := rdC_len _ _ HX.out
      have HXL : Aside0 (xs.length ≤ b ∧ b < ws.length ∧ ws.length ≤ 8) := ⟨by rw [List.length_take] at hxl; omega, hlf, HWl.out⟩
      have hsn := rdC_snoc x _ _ HX.out
      rw [← htk] at hsn
      have hno : rdC [x] = none → rdC ws = none := by
        intro hc
        rw [hc] at hsn
        have := rdC_none (ws.drop (b + 1)) _ hsn
        rwa [List.take_append_drop] at this
      have HRd : Aside0 (∀ W, Below w.heap.size w W → _) := ⟨fun W hW => HRx.out x hxs W hW⟩
      cases hrw : rdW (wrds x dot46) with
      | none =>
        rw [hrw] at HRd
        have HN : Aside0 (ppV s = ((0, []), false)) := ⟨by unfold ppV; rw [HPr.out, hno (by rw [rdC, hrw])]; rfl⟩
        clear hlf hg hx hxs htk hxl hsn hno hrw
        go_wp2_with (first | ((with_reducible refine gate_callee (f := 19) rfl ?_); refine goesL_ (some 45) rfl rfl Tryd.func19 (by kernel_rfl) rfl #[.string x, .string ⟨#[46]⟩] rfl (by (try simp only [List.map_toArray, List.map_cons, List.map_nil]); first | done | rfl) ?_; refine (HRd.out _ HB.out).mono ?_; rintro e_ w_3 ⟨v_, rfl, hr_, hb_⟩; refine ⟨_, rfl, ?_⟩; obtain ⟨A_, c_, ev_⟩ := Kd.R_slice hr_; subst ev_; have HRI := Aside0.mk hr_; clear hr_; have u0_ := Hx.bb_below hb_ HB.out; have u1_ := Hx.b_below hb_ B2.out; have u2_ := Hx.b_below hb_ B9.out; have u3_ := Hx.b_below hb_ HG.out; have u4_ := Kd.R_below HO.out hb_; clear HB B2 B9 HG HO; have HB := Aside0.mk u0_; have B2 := Aside0.mk u1_; have B9 := Aside0.mk u2_; have HG := Aside0.mk u3_; have HO := Aside0.mk u4_; clear hb_ u0_ u1_ u2_ u3_ u4_; have c2_0 : w_3.cell? ⟨gB2, 0, none⟩ = some (.int .i64 0) := (blk_cell B2.out 0).trans rfl; have d2_0 := blk_frozen B2.out 0; have c2_1 : w_3.cell? ⟨gB2, 1, none⟩ = some (.slice none 0 0) := (blk_cell B2.out 1).trans rfl; have d2_1 := blk_frozen B2.out 1))
        exact bodyPost_ret (v := .tuple #[.agg #[.int .i64 0, .slice none 0 0], .bool false]) (by simp [results, Tryd.results11, go_sem, c2_0, c2_1]) rfl ⟨.slice none 0 0, by rw [HN.out], by rw [HN.out]; exact Kd.R_nil _ _ _ _ _, below_set (below_set HB.out (by have := ORD.out; omega)) (by have := ORD.out; omega)⟩
      | some l =>
        rw [hrw] at HRd
        by_cases h3 : l.length = 3
        · obtain ⟨a, b2, c, rfl⟩ : ∃ a b2 c, l = [a, b2, c] := by
            match l, h3 with
            | [a, b2, c], _ => exact ⟨a, b2, c, rfl⟩
          obtain ⟨y, hy⟩ : ∃ y, y = xs ++ [(⟨a, b2, c⟩ : S49)] := ⟨_, rfl⟩
          have Ny := Aside0.mk hy
          have HY : Aside0 (rdC (ws.take (b + 1)) = some y) := ⟨by rw [hsn, rdC, hrw, hy]; rfl⟩
          clear hlf hg hx hxs htk hxl hsn hno hrw h3 hy
          go_upto_region 13 with (first | ((with_reducible refine gate_callee (f := 19) rfl ?_); refine goesL_ (some 45) rfl rfl Tryd.func19 (by kernel_rfl) rfl #[.string x, .string ⟨#[46]⟩] rfl (by (try simp only [List.map_toArray, List.map_cons, List.map_nil]); first | done | rfl) ?_; refine (HRd.out _ HB.out).mono ?_; rintro e_ w_3 ⟨v_, rfl, hr_, hb_⟩; refine ⟨_, rfl, ?_⟩; obtain ⟨gi, ci_, ev_, _, _, cci_, hci_⟩ := Kd.R_form hr_ (by simp); subst ev_; have e0_ : w_3.cell? ⟨gi, 0, none⟩ = some (.int .i64 a) := (Kd.R_celln 0 hr_ 0 (by omega) (by simp)).1; have e1_ : w_3.cell? ⟨gi, 1, none⟩ = some (.int .i64 b2) := (Kd.R_celln 0 hr_ 1 (by omega) (by simp)).1; have e2_ : w_3.cell? ⟨gi, 2, none⟩ = some (.int .i64 c) := (Kd.R_celln 0 hr_ 2 (by omega) (by simp)).1; have HI := Aside0.mk hci_; have HI0 : Aside0 (cci_[0]? = some (.int .i64 a)) := ⟨(blk_cell hci_ 0).symm.trans e0_⟩; have HI1 : Aside0 (cci_[1]? = some (.int .i64 b2)) := ⟨(blk_cell hci_ 1).symm.trans e1_⟩; have HI2 : Aside0 (cci_[2]? = some (.int .i64 c)) := ⟨(blk_cell hci_ 2).symm.trans e2_⟩; clear hr_ hci_ e0_ e1_ e2_; have u0_ := Hx.bb_below hb_ HB.out; have u1_ := Hx.b_below hb_ B2.out; have u2_ := Hx.b_below hb_ B9.out; have u3_ := Hx.b_below hb_ HG.out; have u4_ := Kd.R_below HO.out hb_; clear HB B2 B9 HG HO; have HB := Aside0.mk u0_; have B2 := Aside0.mk u1_; have B9 := Aside0.mk u2_; have HG := Aside0.mk u3_; have HO := Aside0.mk u4_; clear hb_ u0_ u1_ u2_ u3_ u4_))
          refine start_ (n := 16) (S := fun w' => w'.cell? ⟨gB9, 1, none⟩ = some vv ∧ w'.cell? ⟨gi, 0, none⟩ = some (.int .i64 a) ∧ w'.cell? ⟨gi, 1, none⟩ = some (.int .i64 b2) ∧ w'.cell? ⟨gi, 2, none⟩ = some (.int .i64 c)) (ds := [15]) #[false, false, false, false, false, false, false, false, false, false, false, false, false, false, false, false] (by kernel_rfl) rfl rfl ⟨(blk_cell (blk_drew B9.out) 1).trans rfl, (blk_cell (blk_drew HI.out) 0).trans HI0.out, (blk_cell (blk_drew HI.out) 1).trans HI1.out, (blk_cell (blk_drew HI.out) 2).trans HI2.out⟩ (fun hHeld => ?_)
          refine pure_ (i := 0) (N := some 56) (v := ?_) (a' := ?_) #[true, false, false, false, false, false, false, false, false, false, false, false, false, false, false, false] rfl rfl (by kernel_rfl) (fun _ _ _ h => h) (Or.inl ⟨by rfl, ?_⟩) ?_ ?_
          rotate_left
          · intro w'
            go_simp
            with_reducible rfl
          rotate_left
          · simp only [Act.put, List.setIfInBounds_toArray, List.set_cons_zero, List.set_cons_succ, i64_w, i32_w]
            rfl
          refine pure_ (i := 2) (N := some 58) (v := ?_) (a' := ?_) #[true, false, true, false, false, false, false, false, false, false, false, false, false, false, false, false] rfl rfl (by kernel_rfl) (fun _ _ _ h => h) (Or.inl ⟨by rfl, ?_⟩) ?_ ?_
          rotate_left
          · intro w'
            go_simp
            with_reducible rfl
          rotate_left
          · simp only [Act.put, List.setIfInBounds_toArray, List.set_cons_zero, List.set_cons_succ, i64_w, i32_w]
            rfl
          refine pure_ (i := 3) (N := some 59) (v := ?_) (a' := ?_) #[true, false, true, true, false, false, false, false, false, false, false, false, false, false, false, false] rfl rfl (by kernel_rfl) (fun _ _ _ h => h) (Or.inl ⟨by rfl, ?_⟩) ?_ ?_
          rotate_left
          · intro w'
            go_simp
            with_reducible rfl
          rotate_left
          · simp only [Act.put, List.setIfInBounds_toArray, List.set_cons_zero, List.set_cons_succ, i64_w, i32_w]
            rfl
          refine pure_ (i := 5) (N := some 61) (v := ?_) (a' := ?_) #[true, false, true, true, false, true, false, false, false, false, false, false, false, false, false, false] rfl rfl (by kernel_rfl) (fun _ _ _ h => h) (Or.inl ⟨by rfl, ?_⟩) ?_ ?_
          rotate_left
          · intro w'
            go_simp
            with_reducible rfl
          rotate_left
          · simp only [Act.put, List.setIfInBounds_toArray, List.set_cons_zero, List.set_cons_succ, i64_w, i32_w]
            rfl
          refine pure_ (i := 6) (N := some 62) (v := ?_) (a' := ?_) #[true, false, true, true, false, true, true, false, false, false, false, false, false, false, false, false] rfl rfl (by kernel_rfl) (fun _ _ _ h => h) (Or.inl ⟨by rfl, ?_⟩) ?_ ?_
          rotate_left
          · intro w'
            go_simp
            with_reducible rfl
          rotate_left
          · simp only [Act.put, List.setIfInBounds_toArray, List.set_cons_zero, List.set_cons_succ, i64_w, i32_w]
            rfl
          refine pure_ (i := 8) (N := some 64) (v := ?_) (a' := ?_) #[true, false, true, true, false, true, true, false, true, false, false, false, false, false, false, false] rfl rfl (by kernel_rfl) (fun _ _ _ h => h) (Or.inl ⟨by rfl, ?_⟩) ?_ ?_
          rotate_left
          · intro w'
            go_simp
            with_reducible rfl
          rotate_left
          · simp only [Act.put, List.setIfInBounds_toArray, List.set_cons_zero, List.set_cons_succ, i64_w, i32_w]
            rfl
          refine pure_ (i := 9) (N := some 65) (v := ?_) (a' := ?_) #[true, false, true, true, false, true, true, false, true, true, false, false, false, false, false, false] rfl rfl (by kernel_rfl) (fun _ _ _ h => h) (Or.inl ⟨by rfl, ?_⟩) ?_ ?_
          rotate_left
          · intro w'
            go_simp
            with_reducible rfl
          rotate_left
          · simp only [Act.put, List.setIfInBounds_toArray, List.set_cons_zero, List.set_cons_succ, i64_w, i32_w]
            rfl
          refine take_ (i := 1) (N := some 57) (v := ?_) (a' := ?_) #[true, true, true, true, false, true, true, false, true, true, false, false, false, false, false, false] rfl rfl (by kernel_rfl) (fun _ _ _ h => h) (Or.inl ⟨by rfl, ?_⟩) hHeld ?_ ?_
          rotate_left
          · rintro w' ⟨s0, s1, s2, s3⟩
            go_simp
            with_reducible rfl
          rotate_left
          · simp only [Act.put, List.setIfInBounds_toArray, List.set_cons_zero, List.set_cons_succ, i64_w, i32_w]
            rfl
          refine take_ (i := 4) (N := some 60) (v := ?_) (a' := ?_) #[true, true, true, true, true, true, true, false, true, true, false, false, false, false, false, false] rfl rfl (by kernel_rfl) (fun _ _ _ h => h) (Or.inl ⟨by rfl, ?_⟩) hHeld ?_ ?_
          rotate_left
          · rintro w' ⟨s0, s1, s2, s3⟩
            go_simp
            with_reducible rfl
          rotate_left
          · simp only [Act.put, List.setIfInBounds_toArray, List.set_cons_zero, List.set_cons_succ, i64_w, i32_w]
            rfl
          refine take_ (i := 7) (N := some 63) (v := ?_) (a' := ?_) #[true, true, true, true, true, true, true, true, true, true, false, false, false, false, false, false] rfl rfl (by kernel_rfl) (fun _ _ _ h => h) (Or.inl ⟨by rfl, ?_⟩) hHeld ?_ ?_
          rotate_left
          · rintro w' ⟨s0, s1, s2, s3⟩
            go_simp
            with_reducible rfl
          rotate_left
          · simp only [Act.put, List.setIfInBounds_toArray, List.set_cons_zero, List.set_cons_succ, i64_w, i32_w]
            rfl
          refine take_ (i := 10) (N := some 66) (v := ?_) (a' := ?_) #[true, true, true, true, true, true, true, true, true, true, true, false, false, false, false, false] rfl rfl (by kernel_rfl) (fun _ _ _ h => h) (Or.inl ⟨by rfl, ?_⟩) hHeld ?_ ?_
          rotate_left
          · rintro w' ⟨s0, s1, s2, s3⟩
            go_simp
            with_reducible rfl
          rotate_left
          · simp only [Act.put, List.setIfInBounds_toArray, List.set_cons_zero, List.set_cons_succ, i64_w, i32_w]
            rfl
          refine pure_ (i := 11) (N := some 67) (v := ?_) (a' := ?_) #[true, true, true, true, true, true, true, true, true, true, true, true, false, false, false, false] rfl rfl (by kernel_rfl) (fun _ _ _ h => h) (Or.inl ⟨by rfl, ?_⟩) ?_ ?_
          rotate_left
          · intro w'
            go_simp
            with_reducible rfl
          rotate_left
          · simp only [Act.put, List.setIfInBounds_toArray, List.set_cons_zero, List.set_cons_succ, i64_w, i32_w]
            rfl
          refine one_ (i := 12) (N := some 68) #[true, true, true, true, true, true, true, true, true, true, true, true, true, false, false, false] rfl rfl (by kernel_rfl) (by decide) (fun K hK => ?_)
          refine value_ (w1 := ?_) (v := ?_) (by rfl) rfl ?_ ?_
          rotate_left 2
          · go_simp
            constructor
            · rfl
            · rfl
          refine hK.out _ _ ⟨(blk_cell (blk_alloc (blk_drew B9.out) _) 1).trans rfl, (blk_cell (blk_alloc (blk_drew HI.out) _) 0).trans HI0.out, (blk_cell (blk_alloc (blk_drew HI.out) _) 1).trans HI1.out, (blk_cell (blk_alloc (blk_drew HI.out) _) 2).trans HI2.out⟩ (fun hHeld => ?_)
          clear hK K
          refine norm_ (a' := ?_) ?_ ?_
          rotate_left
          · show Act.put _ (some 68) _ = _
            simp only [Act.put, List.setIfInBounds_toArray, List.set_cons_zero, List.set_cons_succ, i64_w, i32_w]
            rfl
          refine one_ (i := 13) (N := some 69) #[true, true, true, true, true, true, true, true, true, true, true, true, true, true, false, false] rfl rfl (by kernel_rfl) (by decide) (fun K hK => ?_)
          refine Kd.R_append_step k49 (w0 := w) (W := w_3.drew) w.heap.size (by rfl) (.tmp 57) (.tmp 68) 28 49 (.agg #[(.int .i64 0), (.int .i64 0), (.int .i64 0)]) 24 rfl Tryd.underlying28 info49 rfl (by decide) (by omega) vv xs (⟨a, b2, c⟩ : S49) [.int .i64 a, .int .i64 b2, .int .i64 c] (fun _ => True) (fun _ => False) rfl rfl (k49_mkM _ _ _ (⟨a, b2, c⟩ : S49)) (fun _ h_ => h_.elim) (fun _ _ => trivial) (Kd.R_drew HO.out) (below_drew1 HB.out) (below_size (below_drew1 HB.out)) (by have := HXL.out; omega) ?_
          intro v1 w_5 ho hb hg hat
          rw [← Ny.out] at ho
          obtain ⟨A8, c8, ev_⟩ := Kd.R_slice ho
          subst ev_
          have b9_ := blk_grown (blk_drew B9.out) hg (Kd.R_ne HO.out B9.out (by decide))
          have b2_ := blk_grown (blk_drew B2.out) hg (Kd.R_ne HO.out B2.out (by decide))
          have hg_ := blk_grown (blk_drew HG.out) hg (Kd.R_ne HO.out HG.out (by decide))
          have hi_ := blk_grown (blk_drew HI.out) hg (Kd.R_ne HO.out HI.out (by decide))
          have s93 : w_5.cell? ⟨gB9, 1, none⟩ = some vv := (blk_cell b9_ 1).trans rfl
          have s9f := blk_frozen b9_ 1
          have HO5 := Aside0.mk ho
          have HB5 := Aside0.mk hb
          have B95 := Aside0.mk b9_
          have B25 := Aside0.mk b2_
          have HG5 := Aside0.mk hg_
          have HI5 := Aside0.mk hi_
          clear ho hb hg hat b9_ b2_ hg_ hi_
          refine hK.out _ _ ⟨(blk_cell (B95.out) 1).trans rfl, (blk_cell (HI5.out) 0).trans HI0.out, (blk_cell (HI5.out) 1).trans HI1.out, (blk_cell (HI5.out) 2).trans HI2.out⟩ (fun hHeld => ?_)
          clear hK K
          refine norm_ (a' := ?_) ?_ ?_
          rotate_left
          · show Act.put _ (some 69) _ = _
            simp only [Act.put, List.setIfInBounds_toArray, List.set_cons_zero, List.set_cons_succ, i64_w, i32_w]
            rfl
          refine pure_ (i := 14) (N := some 70) (v := ?_) (a' := ?_) #[true, true, true, true, true, true, true, true, true, true, true, true, true, true, true, false] rfl rfl (by kernel_rfl) (fun _ _ _ h => h) (Or.inl ⟨by rfl, ?_⟩) ?_ ?_
          rotate_left
          · intro w'
            go_simp
            with_reducible rfl
          rotate_left
          · simp only [Act.put, List.setIfInBounds_toArray, List.set_cons_zero, List.set_cons_succ, i64_w, i32_w]
            rfl
          refine last_ (i := 15) (N := none) #[true, true, true, true, true, true, true, true, true, true, true, true, true, true, true, true] rfl rfl (by kernel_rfl) (by decide) (fun K hK => ?_)
          refine skip_ (w1 := ?_) (by rfl) rfl ?_ ?_
          rotate_left
          · go_simp
            rfl
          refine hK.out _ _ ?_
          clear hK K
          refine done_ (by kernel_rfl) ?_
          obtain ⟨w_6, hw_⟩ : ∃ W_, W_ = w_5.setCell ⟨gB9, 1, none⟩ (.slice A8 y.length c8) := ⟨_, rfl⟩
          have B96 : Aside0 (w_6.heap[gB9]? = some (.cells #[.int .i64 v, .slice A8 y.length c8] 30 (0, 0))) := ⟨by rw [hw_]; exact blk_put B95.out 1 _ rfl⟩
          have B26 : Aside0 (w_6.heap[gB2]? = some (.cells #[.int .i64 0, .slice none 0 0] 30 (0, 0))) := ⟨by rw [hw_]; exact blk_far (p := ⟨gB9, 1, none⟩) B25.out (by have := ORD.out; show gB2 ≠ gB9; omega) _⟩
          have HG6 : Aside0 (w_6.heap[gs]? = some (.cells wcs 9 (0, 0))) := ⟨by rw [hw_]; exact blk_far (p := ⟨gB9, 1, none⟩) HG5.out (blk_ne HG5.out B95.out (by decide)) _⟩
          have HO6 : Aside0 (Kd.R k49 49 w_6 w.heap.size (fun _ => True) (.slice A8 y.length c8) y) := ⟨by rw [hw_]; exact Kd.R_set HO5.out B95.out (by decide) 1 _⟩
          have HB6 : Aside0 (Below w.heap.size w w_6) := ⟨by rw [hw_]; exact below_set (g := gB9) HB5.out (by have := ORD.out; omega)⟩
          rw [← hw_]
          clear hw_ s93 s9f B95 B25 HG5 HO5 HB5 HI5 B9 B2 HG HO HB HI HI0 HI1 HI2
          have B9 := B96
          have B2 := B26
          have HG := HG6
          have HO := HO6
          have HB := HB6
          clear B96 B26 HG6 HO6 HB6
          go_wp2
          go_roundg (ws.length - (b + 1))
          case measure => have := HK.out; have := HXL.out; omega
          case rel => exact ⟨b + 1, y, _, rfl, ⟨by have := HK.out; have := HXL.out; omega⟩, HY, B9, B2, HG, HO, HB⟩
        · have HN : Aside0 (ppV s = ((0, []), false)) := ⟨by
            have hc : rdC [x] = none := by
              rw [rdC, hrw]
              split
              · rename_i hh
                injection hh with hh
                rw [hh] at h3
                exact absurd rfl h3
              · rfl
            unfold ppV
            rw [HPr.out, hno hc]
            rfl⟩
          have d6 : ((l.length : Int) == 3) = false := by simp; omega
          have d7 : (l.length = 3) = False := eq_false h3
          have d8 : decide ((l.length : Int) = 3) = false := decide_eq_false (by omega)
          have H3 := Aside0.mk h3
          clear hlf hg hx hxs htk hxl hsn hno hrw h3
          go_wp2_with (first | ((with_reducible refine gate_callee (f := 19) rfl ?_); refine goesL_ (some 45) rfl rfl Tryd.func19 (by kernel_rfl) rfl #[.string x, .string ⟨#[46]⟩] rfl (by (try simp only [List.map_toArray, List.map_cons, List.map_nil]); first | done | rfl) ?_; refine (HRd.out _ HB.out).mono ?_; rintro e_ w_3 ⟨v_, rfl, hr_, hb_⟩; refine ⟨_, rfl, ?_⟩; obtain ⟨A_, c_, ev_⟩ := Kd.R_slice hr_; subst ev_; have HRI := Aside0.mk hr_; clear hr_; have u0_ := Hx.bb_below hb_ HB.out; have u1_ := Hx.b_below hb_ B2.out; have u2_ := Hx.b_below hb_ B9.out; have u3_ := Hx.b_below hb_ HG.out; have u4_ := Kd.R_below HO.out hb_; clear HB B2 B9 HG HO; have HB := Aside0.mk u0_; have B2 := Aside0.mk u1_; have B9 := Aside0.mk u2_; have HG := Aside0.mk u3_; have HO := Aside0.mk u4_; clear hb_ u0_ u1_ u2_ u3_ u4_; have c2_0 : w_3.cell? ⟨gB2, 0, none⟩ = some (.int .i64 0) := (blk_cell B2.out 0).trans rfl; have d2_0 := blk_frozen B2.out 0; have c2_1 : w_3.cell? ⟨gB2, 1, none⟩ = some (.slice none 0 0) := (blk_cell B2.out 1).trans rfl; have d2_1 := blk_frozen B2.out 1))
          exact bodyPost_ret (v := .tuple #[.agg #[.int .i64 0, .slice none 0 0], .bool false]) (by simp [results, Tryd.results11, go_sem, c2_0, c2_1]) rfl ⟨.slice none 0 0, by rw [HN.out], by rw [HN.out]; exact Kd.R_nil _ _ _ _ _, below_set (below_set HB.out (by have := ORD.out; omega)) (by have := ORD.out; omega)⟩
    · have d4 : decide ((b : Int) < (ws.length : Int)) = false := decide_eq_false (by omega)
      have d5 : (b < ws.length) = False := eq_false hlf
      have HF : Aside0 (rdC ws = some xs) := ⟨by have h_ := HX.out; rwa [List.take_of_length_le (by omega)] at h_⟩
      clear hlf
      obtain ⟨A_, c_, ev_, hcc_, hC_⟩ := Kd.R_reads HO.out
      subst ev_
      have HC := Aside0.mk hC_
      have HCc := Aside0.mk hcc_
      clear hcc_ hC_
      have c9_0 : wr.cell? ⟨gB9, 0, none⟩ = some (.int .i64 v) := (blk_cell B9.out 0).trans rfl
      have c9_1 : wr.cell? ⟨gB9, 1, none⟩ = some (.slice A_ xs.length c_) := (blk_cell B9.out 1).trans rfl
      have c2_0 : wr.cell? ⟨gB2, 0, none⟩ = some (.int .i64 0) := (blk_cell B2.out 0).trans rfl
      have d2_0 := blk_frozen B2.out 0
      have c2_1 : wr.cell? ⟨gB2, 1, none⟩ = some (.slice none 0 0) := (blk_cell B2.out 1).trans rfl
      have d2_1 := blk_frozen B2.out 1
      obtain ⟨bp, hbp⟩ : ∃ bp, impl_IsPuzzle.f v xs = some bp := ⟨_, rfl⟩
      have HIp := Aside0.mk hbp
      cases bp with
      | false =>
        have HN : Aside0 (ppV s = ((0, []), false)) := ⟨by unfold ppV; rw [HPr.out, HF.out]; simp only [Option.map_some]; rw [if_neg (fun h_ => by rw [hbp] at h_; cases h_.1)]⟩
        clear hbp
        go_wp2_with (first | ((with_reducible refine gate_callee (f := 25) rfl ?_); refine goesL_ (some 73) rfl rfl Tryd.func25 (by kernel_rfl) rfl #[.agg #[.int .i64 v, .slice A_ xs.length c_]] rfl (by (try simp only [List.map_toArray, List.map_cons, List.map_nil]); first | done | rfl) ?_; refine (impl_IsPuzzle.calls v A_ c_ xs _ _ HC.out HCc.out HIp.out).mono ?_; rintro e_ w_7 ⟨rfl, hb_⟩; refine ⟨_, rfl, ?_⟩; have hc_ := Kd.C_below HC.out hb_; clear HC; have HC := Aside0.mk hc_; clear hc_; clear c9_0 c9_1 c2_0 d2_0 c2_1 d2_1; have u0_ := Hx.bb_below hb_ HB.out; have u1_ := Hx.b_below hb_ B2.out; have u2_ := Hx.b_below hb_ B9.out; have u3_ := Kd.R_below HO.out hb_; clear HB B2 B9 HO; have HB := Aside0.mk u0_; have B2 := Aside0.mk u1_; have B9 := Aside0.mk u2_; have HO := Aside0.mk u3_; clear hb_ u0_ u1_ u2_ u3_; have c9_0 : w_7.cell? ⟨gB9, 0, none⟩ = some (.int .i64 v) := (blk_cell B9.out 0).trans rfl; have c9_1 : w_7.cell? ⟨gB9, 1, none⟩ = some (.slice A_ xs.length c_) := (blk_cell B9.out 1).trans rfl; have c2_0 : w_7.cell? ⟨gB2, 0, none⟩ = some (.int .i64 0) := (blk_cell B2.out 0).trans rfl; have d2_0 := blk_frozen B2.out 0; have c2_1 : w_7.cell? ⟨gB2, 1, none⟩ = some (.slice none 0 0) := (blk_cell B2.out 1).trans rfl; have d2_1 := blk_frozen B2.out 1))
        exact bodyPost_ret (v := .tuple #[.agg #[.int .i64 0, .slice none 0 0], .bool false]) (by simp [results, Tryd.results11, go_sem, c2_0, c2_1]) rfl ⟨.slice none 0 0, by rw [HN.out], by rw [HN.out]; exact Kd.R_nil _ _ _ _ _, below_set (below_set HB.out (by have := ORD.out; omega)) (by have := ORD.out; omega)⟩
      | true =>
        obtain ⟨tx, htx⟩ : ∃ tx, tx = pTxt v xs := ⟨_, rfl⟩
        have HTx : Aside0 (impl_puzzleText.f v xs = some tx) := ⟨by unfold impl_puzzleText.f; rw [if_pos (puz_small hbp), htx]⟩
        by_cases he : tx = s
        · have HN : Aside0 (ppV s = ((v, xs), true)) := ⟨by unfold ppV; rw [HPr.out, HF.out]; simp only [Option.map_some]; rw [if_pos ⟨hbp, htx.symm.trans he⟩]⟩
          rw [he] at HTx
          clear hbp htx he
          go_wp2_with (first | ((with_reducible refine gate_callee (f := 25) rfl ?_); refine goesL_ (some 73) rfl rfl Tryd.func25 (by kernel_rfl) rfl #[.agg #[.int .i64 v, .slice A_ xs.length c_]] rfl (by (try simp only [List.map_toArray, List.map_cons, List.map_nil]); first | done | rfl) ?_; refine (impl_IsPuzzle.calls v A_ c_ xs _ _ HC.out HCc.out HIp.out).mono ?_; rintro e_ w_7 ⟨rfl, hb_⟩; refine ⟨_, rfl, ?_⟩; have hc_ := Kd.C_below HC.out hb_; clear HC; have HC := Aside0.mk hc_; clear hc_; clear c9_0 c9_1 c2_0 d2_0 c2_1 d2_1; have u0_ := Hx.bb_below hb_ HB.out; have u1_ := Hx.b_below hb_ B2.out; have u2_ := Hx.b_below hb_ B9.out; have u3_ := Kd.R_below HO.out hb_; clear HB B2 B9 HO; have HB := Aside0.mk u0_; have B2 := Aside0.mk u1_; have B9 := Aside0.mk u2_; have HO := Aside0.mk u3_; clear hb_ u0_ u1_ u2_ u3_; have c9_0 : w_7.cell? ⟨gB9, 0, none⟩ = some (.int .i64 v) := (blk_cell B9.out 0).trans rfl; have c9_1 : w_7.cell? ⟨gB9, 1, none⟩ = some (.slice A_ xs.length c_) := (blk_cell B9.out 1).trans rfl; have c2_0 : w_7.cell? ⟨gB2, 0, none⟩ = some (.int .i64 0) := (blk_cell B2.out 0).trans rfl; have d2_0 := blk_frozen B2.out 0; have c2_1 : w_7.cell? ⟨gB2, 1, none⟩ = some (.slice none 0 0) := (blk_cell B2.out 1).trans rfl; have d2_1 := blk_frozen B2.out 1) | (go_at_call 26; refine (impl_puzzleText.calls v A_ c_ xs _ _ HC.out HCc.out HTx.out).mono ?_; rintro e_ w_8 ⟨rfl, hb_⟩; have hc_ := Kd.C_below HC.out hb_; clear HC; have HC := Aside0.mk hc_; clear hc_; clear c9_0 c9_1 c2_0 d2_0 c2_1 d2_1; have u0_ := Hx.bb_below hb_ HB.out; have u1_ := Hx.b_below hb_ B2.out; have u2_ := Hx.b_below hb_ B9.out; have u3_ := Kd.R_below HO.out hb_; clear HB B2 B9 HO; have HB := Aside0.mk u0_; have B2 := Aside0.mk u1_; have B9 := Aside0.mk u2_; have HO := Aside0.mk u3_; clear hb_ u0_ u1_ u2_ u3_; have c9_0 : w_8.cell? ⟨gB9, 0, none⟩ = some (.int .i64 v) := (blk_cell B9.out 0).trans rfl; have c9_1 : w_8.cell? ⟨gB9, 1, none⟩ = some (.slice A_ xs.length c_) := (blk_cell B9.out 1).trans rfl; have c2_0 : w_8.cell? ⟨gB2, 0, none⟩ = some (.int .i64 0) := (blk_cell B2.out 0).trans rfl; have d2_0 := blk_frozen B2.out 0; have c2_1 : w_8.cell? ⟨gB2, 1, none⟩ = some (.slice none 0 0) := (blk_cell B2.out 1).trans rfl; have d2_1 := blk_frozen B2.out 1))
          exact bodyPost_ret (v := .tuple #[.agg #[.int .i64 v, .slice A_ xs.length c_], .bool true]) (by simp [results, Tryd.results11, go_sem, c2_0, c2_1]) rfl ⟨.slice A_ xs.length c_, by rw [HN.out], by rw [HN.out]; exact R_set2 HO.out B2.out (by decide) _ _, below_set (below_set HB.out (by have := ORD.out; omega)) (by have := ORD.out; omega)⟩
        · have HN : Aside0 (ppV s = ((0, []), false)) := ⟨by unfold ppV; rw [HPr.out, HF.out]; simp only [Option.map_some]; rw [if_neg (fun h_ => he (htx.trans h_.2))]⟩
          have q3 := str_ne he
          have HE := Aside0.mk he
          clear hbp htx he
          go_wp2_with (first | ((with_reducible refine gate_callee (f := 25) rfl ?_); refine goesL_ (some 73) rfl rfl Tryd.func25 (by kernel_rfl) rfl #[.agg #[.int .i64 v, .slice A_ xs.length c_]] rfl (by (try simp only [List.map_toArray, List.map_cons, List.map_nil]); first | done | rfl) ?_; refine (impl_IsPuzzle.calls v A_ c_ xs _ _ HC.out HCc.out HIp.out).mono ?_; rintro e_ w_7 ⟨rfl, hb_⟩; refine ⟨_, rfl, ?_⟩; have hc_ := Kd.C_below HC.out hb_; clear HC; have HC := Aside0.mk hc_; clear hc_; clear c9_0 c9_1 c2_0 d2_0 c2_1 d2_1; have u0_ := Hx.bb_below hb_ HB.out; have u1_ := Hx.b_below hb_ B2.out; have u2_ := Hx.b_below hb_ B9.out; have u3_ := Kd.R_below HO.out hb_; clear HB B2 B9 HO; have HB := Aside0.mk u0_; have B2 := Aside0.mk u1_; have B9 := Aside0.mk u2_; have HO := Aside0.mk u3_; clear hb_ u0_ u1_ u2_ u3_; have c9_0 : w_7.cell? ⟨gB9, 0, none⟩ = some (.int .i64 v) := (blk_cell B9.out 0).trans rfl; have c9_1 : w_7.cell? ⟨gB9, 1, none⟩ = some (.slice A_ xs.length c_) := (blk_cell B9.out 1).trans rfl; have c2_0 : w_7.cell? ⟨gB2, 0, none⟩ = some (.int .i64 0) := (blk_cell B2.out 0).trans rfl; have d2_0 := blk_frozen B2.out 0; have c2_1 : w_7.cell? ⟨gB2, 1, none⟩ = some (.slice none 0 0) := (blk_cell B2.out 1).trans rfl; have d2_1 := blk_frozen B2.out 1) | (go_at_call 26; refine (impl_puzzleText.calls v A_ c_ xs _ _ HC.out HCc.out HTx.out).mono ?_; rintro e_ w_8 ⟨rfl, hb_⟩; have hc_ := Kd.C_below HC.out hb_; clear HC; have HC := Aside0.mk hc_; clear hc_; clear c9_0 c9_1 c2_0 d2_0 c2_1 d2_1; have u0_ := Hx.bb_below hb_ HB.out; have u1_ := Hx.b_below hb_ B2.out; have u2_ := Hx.b_below hb_ B9.out; have u3_ := Kd.R_below HO.out hb_; clear HB B2 B9 HO; have HB := Aside0.mk u0_; have B2 := Aside0.mk u1_; have B9 := Aside0.mk u2_; have HO := Aside0.mk u3_; clear hb_ u0_ u1_ u2_ u3_; have c9_0 : w_8.cell? ⟨gB9, 0, none⟩ = some (.int .i64 v) := (blk_cell B9.out 0).trans rfl; have c9_1 : w_8.cell? ⟨gB9, 1, none⟩ = some (.slice A_ xs.length c_) := (blk_cell B9.out 1).trans rfl; have c2_0 : w_8.cell? ⟨gB2, 0, none⟩ = some (.int .i64 0) := (blk_cell B2.out 0).trans rfl; have d2_0 := blk_frozen B2.out 0; have c2_1 : w_8.cell? ⟨gB2, 1, none⟩ = some (.slice none 0 0) := (blk_cell B2.out 1).trans rfl; have d2_1 := blk_frozen B2.out 1))
          exact bodyPost_ret (v := .tuple #[.agg #[.int .i64 0, .slice none 0 0], .bool false]) (by simp [results, Tryd.results11, go_sem, c2_0, c2_1]) rfl ⟨.slice none 0 0, by rw [HN.out], by rw [HN.out]; exact Kd.R_nil _ _ _ _ _, below_set (below_set HB.out (by have := ORD.out; omega)) (by have := ORD.out; omega)⟩

set_option maxHeartbeats 16000000 in
set_option maxRecDepth 1000000 in
theorem parsePuzzle.good0 (w : World) (hP : PW w) (s : ByteArray) (hs : s.size ≤ 1000000) (hh : (ppHead s).size ≤ 1000000) (hr : (ppRest s).size ≤ 1000000) (hb : (Lib.cut s.data.toList [102]).2.2 = true) (v : Int) (hv : Lib.atoiAll (ppHead s).data.toList = .ok v) (h0 : (ppRest s).size = 0) :
    Calls Tryd.prog 11 #[.string s] w fun e w' => ∃ vv, e = .returned (.tuple #[.agg #[.int .i64 (ppV s).1.1, vv], .bool (ppV s).2]) ∧ Kd.R k49 49 w' w.heap.size (fun _ => True) vv (ppV s).1.2 ∧ Below w.heap.size w w' := by
  have hu30 := Tryd.underlying30
  have HCut : Aside0 (∀ W, Below w.heap.size w W → _) := ⟨fun W hW => cut_calls W (hP.below hW) s hs⟩
  obtain ⟨hd, hhd⟩ : ∃ x, x = ppHead s := ⟨_, rfl⟩
  obtain ⟨rs, hrs⟩ : ∃ x, x = ppRest s := ⟨_, rfl⟩
  have hpr : ppRead s = (rdC (ppWords rs)).map fun l => (v, l) := by unfold ppRead; rw [if_pos hb, hv, hrs]
  rw [← hhd] at HCut hh hv
  rw [← hrs] at HCut hr h0
  rw [hb] at HCut
  have HAt : Aside0 (∀ W, _) := ⟨fun W => atoi_ok W hd hh v hv⟩
  have q0 : rs.toList.isEmpty = true := by
    rw [ByteArray.toList_eq]
    cases hq : rs.data.toList with
    | nil => rfl
    | cons a b => exact absurd (show rs.data.size = 0 from h0) (by rw [← Array.length_toList, hq]; simp)
  have hpw : ppWords rs = [] := by unfold ppWords; rw [if_pos h0]
  rw [hpw] at hpr
  have hpr : ppRead s = some (v, []) := hpr
  have HB := Aside0.mk (Below.refl w.heap.size w)
  clear hP hs hh hr hb hv h0 hhd hrs hpw
  obtain ⟨bp, hbp⟩ : ∃ bp, impl_IsPuzzle.f v [] = some bp := ⟨_, rfl⟩
  have HIp := Aside0.mk hbp
  cases bp with
  | false =>
    have HN : Aside0 (ppV s = ((0, []), false)) := ⟨by unfold ppV; rw [hpr]; simp only; rw [if_neg (fun h_ => by rw [hbp] at h_; cases h_.1)]⟩
    clear hbp hpr
    go_enter Tryd.func11, Tryd.ntmps11
    go_wp2_with (first | ((with_reducible refine gate_dst (N := 2) rfl ?_); refine box_event ?hg (N := 2) ?hd (cs := #[.int .i64 0, .slice none 0 0]) (t := 30) ?hr ?_; (case hd => rfl); (case hg => rfl); (case hr => first | (go_simp; done) | (go_simp; rfl)); intro gB2 hg_ w_gB2 BK_ hb_; have ORD_ : Aside0 ((True) ∧ (w.heap.size ≤ gB2)) := ⟨by refine ⟨trivial, ?_⟩; (have := HB.out.size); omega⟩; have ORD := ORD_; clear ORD_; have n0_ : Aside0 (Below w.heap.size w w_gB2) := ⟨Hx.bb_below hb_ (by first | exact HB.out | exact below_drew1 HB.out | exact pw_below_drewN HB.out _)⟩; have m0_ : Aside0 (w_gB2.heap[gB2]? = some (.cells #[.int .i64 0, .slice none 0 0] 30 (0, 0))) := ⟨BK_⟩; (try clear HB); have HB := n0_; have B2 := m0_; clear n0_ m0_; clear hg_ BK_ hb_) | ((with_reducible refine gate_callee (f := 22) rfl ?_); refine goesL_ (some 16) rfl rfl Tryd.func22 (by kernel_rfl) rfl #[.string s, .string ⟨#[102]⟩] rfl (by (try simp only [List.map_toArray, List.map_cons, List.map_nil]); first | done | rfl) ?_; refine (HCut.out _ HB.out).mono ?_; rintro e_ w_1 ⟨rfl, hb_⟩; refine ⟨_, rfl, ?_⟩; have hB_ := Hx.bb_below hb_ HB.out; have h2_ := Hx.b_below hb_ B2.out; clear HB B2; have HB := Aside0.mk hB_; have B2 := Aside0.mk h2_; clear hB_ h2_ hb_) | ((with_reducible refine gate_callee (f := 23) rfl ?_); refine goesL_ (some 22) rfl rfl Tryd.func23 (by kernel_rfl) rfl #[.string hd] rfl (by (try simp only [List.map_toArray, List.map_cons, List.map_nil]); first | done | rfl) ?_; refine (HAt.out _).mono ?_; rintro e_ w_2 ⟨rfl, hb_⟩; refine ⟨_, rfl, ?_⟩; have u0_ := Hx.bb_below hb_ HB.out; have u1_ := Hx.b_below hb_ B2.out; clear HB B2; have HB := Aside0.mk u0_; have B2 := Aside0.mk u1_; clear hb_ u0_ u1_) | ((with_reducible refine gate_dst (N := 9) rfl ?_); refine box_event ?hg (N := 9) ?hd (cs := #[.int .i64 0, .slice none 0 0]) (t := 30) ?hr ?_; (case hd => rfl); (case hg => rfl); (case hr => first | (go_simp; done) | (go_simp; rfl)); intro gB9 hg_ w_gB9 BK_ hb_; have ORD_ : Aside0 (((True) ∧ (w.heap.size ≤ gB2)) ∧ (gB2 < gB9 ∧ w.heap.size ≤ gB9)) := ⟨by refine ⟨ORD.out, ?_⟩; (have := HB.out.size); (have := blk_lt B2.out); omega⟩; clear ORD; have ORD := ORD_; clear ORD_; have n0_ : Aside0 (Below w.heap.size w w_gB9) := ⟨Hx.bb_below hb_ (by first | exact HB.out | exact below_drew1 HB.out | exact pw_below_drewN HB.out _)⟩; have n1_ : Aside0 (w_gB9.heap[gB2]? = some (.cells #[.int .i64 0, .slice none 0 0] 30 (0, 0))) := ⟨Hx.b_below hb_ B2.out⟩; have m0_ : Aside0 (w_gB9.heap[gB9]? = some (.cells #[.int .i64 0, .slice none 0 0] 30 (0, 0))) := ⟨BK_⟩; (try clear HB); (try clear B2); have HB := n0_; have B2 := n1_; have B9 := m0_; clear n0_ n1_ m0_; have cB9_0 : w_gB9.cell? ⟨gB9, 0, none⟩ = some (.int .i64 0) := (blk_cell B9.out 0).trans rfl; have dB9_0 := blk_frozen B9.out 0; have cB9_1 : w_gB9.cell? ⟨gB9, 1, none⟩ = some (.slice none 0 0) := (blk_cell B9.out 1).trans rfl; have dB9_1 := blk_frozen B9.out 1; clear hg_ BK_ hb_) | ((with_reducible refine gate_store (t := 30) (p := 9) rfl ?_); refine store_event (t := 30) (p := 9) (v := ?vo_wS) (w1 := (((w_gB9).setCell ⟨gB9, 0, none⟩ (.int .i64 v)).setCell ⟨gB9, 1, none⟩ (.slice none 0 0))) ?hg ?ho ?hn ?hr ?_; (case ho => rfl); (case hg => rfl); (case hn => rfl); (case hr => first | (go_simp; done) | (go_simp; rfl)); intro w_S hw_; have e0_ : gB2 ≠ gB9 := (by have := ORD.out; omega); have n0_ : Aside0 (Below w.heap.size w w_S) := ⟨by rw [hw_]; exact below_set (g := gB9) (below_set (g := gB9) HB.out (by have := ORD.out; omega)) (by have := ORD.out; omega)⟩; have n1_ : Aside0 (w_S.heap[gB2]? = some (.cells #[.int .i64 0, .slice none 0 0] 30 (0, 0))) := ⟨by rw [hw_]; exact blk_far (blk_far B2.out e0_ _) e0_ _⟩; have n2_ : Aside0 (w_S.heap[gB9]? = some (.cells #[.int .i64 v, .slice none 0 0] 30 (0, 0))) := ⟨by rw [hw_]; exact blk_put (blk_put B9.out 0 _ rfl) 1 _ rfl⟩; (try clear cB9_0 dB9_0 cB9_1 dB9_1); (try clear HB); (try clear B2); (try clear B9); have HB := n0_; have B2 := n1_; have B9 := n2_; clear n0_ n1_ n2_; have cB9_0 : w_S.cell? ⟨gB9, 0, none⟩ = some (.int .i64 v) := (blk_cell B9.out 0).trans rfl; have dB9_0 := blk_frozen B9.out 0; have cB9_1 : w_S.cell? ⟨gB9, 1, none⟩ = some (.slice none 0 0) := (blk_cell B9.out 1).trans rfl; have dB9_1 := blk_frozen B9.out 1; clear hw_ e0_) | ((with_reducible refine gate_callee (f := 25) rfl ?_); refine goesL_ (some 73) rfl rfl Tryd.func25 (by kernel_rfl) rfl #[.agg #[.int .i64 v, .slice none 0 0]] rfl (by (try simp only [List.map_toArray, List.map_cons, List.map_nil]); first | done | rfl) ?_; refine (impl_IsPuzzle.calls v none 0 [] _ _ (Kd.C_nil _ _) (Nat.le_refl 0) HIp.out).mono ?_; rintro e_ w_7 ⟨rfl, hb_⟩; refine ⟨_, rfl, ?_⟩; (try clear cB9_0 dB9_0 cB9_1 dB9_1); have u0_ := Hx.bb_below hb_ HB.out; have u1_ := Hx.b_below hb_ B2.out; have u2_ := Hx.b_below hb_ B9.out; clear HB B2 B9; have HB := Aside0.mk u0_; have B2 := Aside0.mk u1_; have B9 := Aside0.mk u2_; clear hb_ u0_ u1_ u2_; have c9_0 : w_7.cell? ⟨gB9, 0, none⟩ = some (.int .i64 v) := (blk_cell B9.out 0).trans rfl; have c9_1 : w_7.cell? ⟨gB9, 1, none⟩ = some (.slice none 0 0) := (blk_cell B9.out 1).trans rfl; have c2_0 : w_7.cell? ⟨gB2, 0, none⟩ = some (.int .i64 0) := (blk_cell B2.out 0).trans rfl; have d2_0 := blk_frozen B2.out 0; have c2_1 : w_7.cell? ⟨gB2, 1, none⟩ = some (.slice none 0 0) := (blk_cell B2.out 1).trans rfl; have d2_1 := blk_frozen B2.out 1))
    exact bodyPost_ret (v := .tuple #[.agg #[.int .i64 0, .slice none 0 0], .bool false]) (by simp [results, Tryd.results11, go_sem, c2_0, c2_1]) rfl ⟨.slice none 0 0, by rw [HN.out], by rw [HN.out]; exact Kd.R_nil _ _ _ _ _, below_set (below_set HB.out (by have := ORD.out; omega)) (by have := ORD.out; omega)⟩
  | true =>
    obtain ⟨tx, htx⟩ : ∃ tx, tx = pTxt v [] := ⟨_, rfl⟩
    have HTx : Aside0 (impl_puzzleText.f v [] = some tx) := ⟨by unfold impl_puzzleText.f; rw [if_pos (puz_small hbp), htx]⟩
    by_cases he : tx = s
    · have HN : Aside0 (ppV s = ((v, []), true)) := ⟨by unfold ppV; rw [hpr]; simp only; rw [if_pos ⟨hbp, htx.symm.trans he⟩]⟩
      rw [he] at HTx
      clear hbp htx he hpr
      go_enter Tryd.func11, Tryd.ntmps11
      go_wp2_with (first | ((with_reducible refine gate_dst (N := 2) rfl ?_); refine box_event ?hg (N := 2) ?hd (cs := #[.int .i64 0, .slice none 0 0]) (t := 30) ?hr ?_; (case hd => rfl); (case hg => rfl); (case hr => first | (go_simp; done) | (go_simp; rfl)); intro gB2 hg_ w_gB2 BK_ hb_; have ORD_ : Aside0 ((True) ∧ (w.heap.size ≤ gB2)) := ⟨by refine ⟨trivial, ?_⟩; (have := HB.out.size); omega⟩; have ORD := ORD_; clear ORD_; have n0_ : Aside0 (Below w.heap.size w w_gB2) := ⟨Hx.bb_below hb_ (by first | exact HB.out | exact below_drew1 HB.out | exact pw_below_drewN HB.out _)⟩; have m0_ : Aside0 (w_gB2.heap[gB2]? = some (.cells #[.int .i64 0, .slice none 0 0] 30 (0, 0))) := ⟨BK_⟩; (try clear HB); have HB := n0_; have B2 := m0_; clear n0_ m0_; clear hg_ BK_ hb_) | ((with_reducible refine gate_callee (f := 22) rfl ?_); refine goesL_ (some 16) rfl rfl Tryd.func22 (by kernel_rfl) rfl #[.string s, .string ⟨#[102]⟩] rfl (by (try simp only [List.map_toArray, List.map_cons, List.map_nil]); first | done | rfl) ?_; refine (HCut.out _ HB.out).mono ?_; rintro e_ w_1 ⟨rfl, hb_⟩; refine ⟨_, rfl, ?_⟩; have hB_ := Hx.bb_below hb_ HB.out; have h2_ := Hx.b_below hb_ B2.out; clear HB B2; have HB := Aside0.mk hB_; have B2 := Aside0.mk h2_; clear hB_ h2_ hb_) | ((with_reducible refine gate_callee (f := 23) rfl ?_); refine goesL_ (some 22) rfl rfl Tryd.func23 (by kernel_rfl) rfl #[.string hd] rfl (by (try simp only [List.map_toArray, List.map_cons, List.map_nil]); first | done | rfl) ?_; refine (HAt.out _).mono ?_; rintro e_ w_2 ⟨rfl, hb_⟩; refine ⟨_, rfl, ?_⟩; have u0_ := Hx.bb_below hb_ HB.out; have u1_ := Hx.b_below hb_ B2.out; clear HB B2; have HB := Aside0.mk u0_; have B2 := Aside0.mk u1_; clear hb_ u0_ u1_) | ((with_reducible refine gate_dst (N := 9) rfl ?_); refine box_event ?hg (N := 9) ?hd (cs := #[.int .i64 0, .slice none 0 0]) (t := 30) ?hr ?_; (case hd => rfl); (case hg => rfl); (case hr => first | (go_simp; done) | (go_simp; rfl)); intro gB9 hg_ w_gB9 BK_ hb_; have ORD_ : Aside0 (((True) ∧ (w.heap.size ≤ gB2)) ∧ (gB2 < gB9 ∧ w.heap.size ≤ gB9)) := ⟨by refine ⟨ORD.out, ?_⟩; (have := HB.out.size); (have := blk_lt B2.out); omega⟩; clear ORD; have ORD := ORD_; clear ORD_; have n0_ : Aside0 (Below w.heap.size w w_gB9) := ⟨Hx.bb_below hb_ (by first | exact HB.out | exact below_drew1 HB.out | exact pw_below_drewN HB.out _)⟩; have n1_ : Aside0 (w_gB9.heap[gB2]? = some (.cells #[.int .i64 0, .slice none 0 0] 30 (0, 0))) := ⟨Hx.b_below hb_ B2.out⟩; have m0_ : Aside0 (w_gB9.heap[gB9]? = some (.cells #[.int .i64 0, .slice none 0 0] 30 (0, 0))) := ⟨BK_⟩; (try clear HB); (try clear B2); have HB := n0_; have B2 := n1_; have B9 := m0_; clear n0_ n1_ m0_; have cB9_0 : w_gB9.cell? ⟨gB9, 0, none⟩ = some (.int .i64 0) := (blk_cell B9.out 0).trans rfl; have dB9_0 := blk_frozen B9.out 0; have cB9_1 : w_gB9.cell? ⟨gB9, 1, none⟩ = some (.slice none 0 0) := (blk_cell B9.out 1).trans rfl; have dB9_1 := blk_frozen B9.out 1; clear hg_ BK_ hb_) | ((with_reducible refine gate_store (t := 30) (p := 9) rfl ?_); refine store_event (t := 30) (p := 9) (v := ?vo_wS) (w1 := (((w_gB9).setCell ⟨gB9, 0, none⟩ (.int .i64 v)).setCell ⟨gB9, 1, none⟩ (.slice none 0 0))) ?hg ?ho ?hn ?hr ?_; (case ho => rfl); (case hg => rfl); (case hn => rfl); (case hr => first | (go_simp; done) | (go_simp; rfl)); intro w_S hw_; have e0_ : gB2 ≠ gB9 := (by have := ORD.out; omega); have n0_ : Aside0 (Below w.heap.size w w_S) := ⟨by rw [hw_]; exact below_set (g := gB9) (below_set (g := gB9) HB.out (by have := ORD.out; omega)) (by have := ORD.out; omega)⟩; have n1_ : Aside0 (w_S.heap[gB2]? = some (.cells #[.int .i64 0, .slice none 0 0] 30 (0, 0))) := ⟨by rw [hw_]; exact blk_far (blk_far B2.out e0_ _) e0_ _⟩; have n2_ : Aside0 (w_S.heap[gB9]? = some (.cells #[.int .i64 v, .slice none 0 0] 30 (0, 0))) := ⟨by rw [hw_]; exact blk_put (blk_put B9.out 0 _ rfl) 1 _ rfl⟩; (try clear cB9_0 dB9_0 cB9_1 dB9_1); (try clear HB); (try clear B2); (try clear B9); have HB := n0_; have B2 := n1_; have B9 := n2_; clear n0_ n1_ n2_; have cB9_0 : w_S.cell? ⟨gB9, 0, none⟩ = some (.int .i64 v) := (blk_cell B9.out 0).trans rfl; have dB9_0 := blk_frozen B9.out 0; have cB9_1 : w_S.cell? ⟨gB9, 1, none⟩ = some (.slice none 0 0) := (blk_cell B9.out 1).trans rfl; have dB9_1 := blk_frozen B9.out 1; clear hw_ e0_) | ((with_reducible refine gate_callee (f := 25) rfl ?_); refine goesL_ (some 73) rfl rfl Tryd.func25 (by kernel_rfl) rfl #[.agg #[.int .i64 v, .slice none 0 0]] rfl (by (try simp only [List.map_toArray, List.map_cons, List.map_nil]); first | done | rfl) ?_; refine (impl_IsPuzzle.calls v none 0 [] _ _ (Kd.C_nil _ _) (Nat.le_refl 0) HIp.out).mono ?_; rintro e_ w_7 ⟨rfl, hb_⟩; refine ⟨_, rfl, ?_⟩; (try clear cB9_0 dB9_0 cB9_1 dB9_1); have u0_ := Hx.bb_below hb_ HB.out; have u1_ := Hx.b_below hb_ B2.out; have u2_ := Hx.b_below hb_ B9.out; clear HB B2 B9; have HB := Aside0.mk u0_; have B2 := Aside0.mk u1_; have B9 := Aside0.mk u2_; clear hb_ u0_ u1_ u2_; have c9_0 : w_7.cell? ⟨gB9, 0, none⟩ = some (.int .i64 v) := (blk_cell B9.out 0).trans rfl; have c9_1 : w_7.cell? ⟨gB9, 1, none⟩ = some (.slice none 0 0) := (blk_cell B9.out 1).trans rfl; have c2_0 : w_7.cell? ⟨gB2, 0, none⟩ = some (.int .i64 0) := (blk_cell B2.out 0).trans rfl; have d2_0 := blk_frozen B2.out 0; have c2_1 : w_7.cell? ⟨gB2, 1, none⟩ = some (.slice none 0 0) := (blk_cell B2.out 1).trans rfl; have d2_1 := blk_frozen B2.out 1) | (go_at_call 26; refine (impl_puzzleText.calls v none 0 [] _ _ (Kd.C_nil _ _) (Nat.le_refl 0) HTx.out).mono ?_; rintro e_ w_8 ⟨rfl, hb_⟩; clear c9_0 c9_1 c2_0 d2_0 c2_1 d2_1; have u0_ := Hx.bb_below hb_ HB.out; have u1_ := Hx.b_below hb_ B2.out; have u2_ := Hx.b_below hb_ B9.out; clear HB B2 B9; have HB := Aside0.mk u0_; have B2 := Aside0.mk u1_; have B9 := Aside0.mk u2_; clear hb_ u0_ u1_ u2_; have c9_0 : w_8.cell? ⟨gB9, 0, none⟩ = some (.int .i64 v) := (blk_cell B9.out 0).trans rfl; have c9_1 : w_8.cell? ⟨gB9, 1, none⟩ = some (.slice none 0 0) := (blk_cell B9.out 1).trans rfl; have c2_0 : w_8.cell? ⟨gB2, 0, none⟩ = some (.int .i64 0) := (blk_cell B2.out 0).trans rfl; have d2_0 := blk_frozen B2.out 0; have c2_1 : w_8.cell? ⟨gB2, 1, none⟩ = some (.slice none 0 0) := (blk_cell B2.out 1).trans rfl; have d2_1 := blk_frozen B2.out 1))
      exact bodyPost_ret (v := .tuple #[.agg #[.int .i64 v, .slice none 0 0], .bool true]) (by simp [results, Tryd.results11, go_sem, c2_0, c2_1]) rfl ⟨.slice none 0 0, by rw [HN.out], by rw [HN.out]; exact Kd.R_nil _ _ _ _ _, below_set (below_set HB.out (by have := ORD.out; omega)) (by have := ORD.out; omega)⟩
    · have HN : Aside0 (ppV s = ((0, []), false)) := ⟨by unfold ppV; rw [hpr]; simp only; rw [if_neg (fun h_ => he (htx.trans h_.2))]⟩
      have q3 := str_ne he
      have HE := Aside0.mk he
      clear hbp htx he hpr
      go_enter Tryd.func11, Tryd.ntmps11
      go_wp2_with (first | ((with_reducible refine gate_dst (N := 2) rfl ?_); refine box_event ?hg (N := 2) ?hd (cs := #[.int .i64 0, .slice none 0 0]) (t := 30) ?hr ?_; (case hd => rfl); (case hg => rfl); (case hr => first | (go_simp; done) | (go_simp; rfl)); intro gB2 hg_ w_gB2 BK_ hb_; have ORD_ : Aside0 ((True) ∧ (w.heap.size ≤ gB2)) := ⟨by refine ⟨trivial, ?_⟩; (have := HB.out.size); omega⟩; have ORD := ORD_; clear ORD_; have n0_ : Aside0 (Below w.heap.size w w_gB2) := ⟨Hx.bb_below hb_ (by first | exact HB.out | exact below_drew1 HB.out | exact pw_below_drewN HB.out _)⟩; have m0_ : Aside0 (w_gB2.heap[gB2]? = some (.cells #[.int .i64 0, .slice none 0 0] 30 (0, 0))) := ⟨BK_⟩; (try clear HB); have HB := n0_; have B2 := m0_; clear n0_ m0_; clear hg_ BK_ hb_) | ((with_reducible refine gate_callee (f := 22) rfl ?_); refine goesL_ (some 16) rfl rfl Tryd.func22 (by kernel_rfl) rfl #[.string s, .string ⟨#[102]⟩] rfl (by (try simp only [List.map_toArray, List.map_cons, List.map_nil]); first | done | rfl) ?_; refine (HCut.out _ HB.out).mono ?_; rintro e_ w_1 ⟨rfl, hb_⟩; refine ⟨_, rfl, ?_⟩; have hB_ := Hx.bb_below hb_ HB.out; have h2_ := Hx.b_below hb_ B2.out; clear HB B2; have HB := Aside0.mk hB_; have B2 := Aside0.mk h2_; clear hB_ h2_ hb_) | ((with_reducible refine gate_callee (f := 23) rfl ?_); refine goesL_ (some 22) rfl rfl Tryd.func23 (by kernel_rfl) rfl #[.string hd] rfl (by (try simp only [List.map_toArray, List.map_cons, List.map_nil]); first | done | rfl) ?_; refine (HAt.out _).mono ?_; rintro e_ w_2 ⟨rfl, hb_⟩; refine ⟨_, rfl, ?_⟩; have u0_ := Hx.bb_below hb_ HB.out; have u1_ := Hx.b_below hb_ B2.out; clear HB B2; have HB := Aside0.mk u0_; have B2 := Aside0.mk u1_; clear hb_ u0_ u1_) | ((with_reducible refine gate_dst (N := 9) rfl ?_); refine box_event ?hg (N := 9) ?hd (cs := #[.int .i64 0, .slice none 0 0]) (t := 30) ?hr ?_; (case hd => rfl); (case hg => rfl); (case hr => first | (go_simp; done) | (go_simp; rfl)); intro gB9 hg_ w_gB9 BK_ hb_; have ORD_ : Aside0 (((True) ∧ (w.heap.size ≤ gB2)) ∧ (gB2 < gB9 ∧ w.heap.size ≤ gB9)) := ⟨by refine ⟨ORD.out, ?_⟩; (have := HB.out.size); (have := blk_lt B2.out); omega⟩; clear ORD; have ORD := ORD_; clear ORD_; have n0_ : Aside0 (Below w.heap.size w w_gB9) := ⟨Hx.bb_below hb_ (by first | exact HB.out | exact below_drew1 HB.out | exact pw_below_drewN HB.out _)⟩; have n1_ : Aside0 (w_gB9.heap[gB2]? = some (.cells #[.int .i64 0, .slice none 0 0] 30 (0, 0))) := ⟨Hx.b_below hb_ B2.out⟩; have m0_ : Aside0 (w_gB9.heap[gB9]? = some (.cells #[.int .i64 0, .slice none 0 0] 30 (0, 0))) := ⟨BK_⟩; (try clear HB); (try clear B2); have HB := n0_; have B2 := n1_; have B9 := m0_; clear n0_ n1_ m0_; have cB9_0 : w_gB9.cell? ⟨gB9, 0, none⟩ = some (.int .i64 0) := (blk_cell B9.out 0).trans rfl; have dB9_0 := blk_frozen B9.out 0; have cB9_1 : w_gB9.cell? ⟨gB9, 1, none⟩ = some (.slice none 0 0) := (blk_cell B9.out 1).trans rfl; have dB9_1 := blk_frozen B9.out 1; clear hg_ BK_ hb_) | ((with_reducible refine gate_store (t := 30) (p := 9) rfl ?_); refine store_event (t := 30) (p := 9) (v := ?vo_wS) (w1 := (((w_gB9).setCell ⟨gB9, 0, none⟩ (.int .i64 v)).setCell ⟨gB9, 1, none⟩ (.slice none 0 0))) ?hg ?ho ?hn ?hr ?_; (case ho => rfl); (case hg => rfl); (case hn => rfl); (case hr => first | (go_simp; done) | (go_simp; rfl)); intro w_S hw_; have e0_ : gB2 ≠ gB9 := (by have := ORD.out; omega); have n0_ : Aside0 (Below w.heap.size w w_S) := ⟨by rw [hw_]; exact below_set (g := gB9) (below_set (g := gB9) HB.out (by have := ORD.out; omega)) (by have := ORD.out; omega)⟩; have n1_ : Aside0 (w_S.heap[gB2]? = some (.cells #[.int .i64 0, .slice none 0 0] 30 (0, 0))) := ⟨by rw [hw_]; exact blk_far (blk_far B2.out e0_ _) e0_ _⟩; have n2_ : Aside0 (w_S.heap[gB9]? = some (.cells #[.int .i64 v, .slice none 0 0] 30 (0, 0))) := ⟨by rw [hw_]; exact blk_put (blk_put B9.out 0 _ rfl) 1 _ rfl⟩; (try clear cB9_0 dB9_0 cB9_1 dB9_1); (try clear HB); (try clear B2); (try clear B9); have HB := n0_; have B2 := n1_; have B9 := n2_; clear n0_ n1_ n2_; have cB9_0 : w_S.cell? ⟨gB9, 0, none⟩ = some (.int .i64 v) := (blk_cell B9.out 0).trans rfl; have dB9_0 := blk_frozen B9.out 0; have cB9_1 : w_S.cell? ⟨gB9, 1, none⟩ = some (.slice none 0 0) := (blk_cell B9.out 1).trans rfl; have dB9_1 := blk_frozen B9.out 1; clear hw_ e0_) | ((with_reducible refine gate_callee (f := 25) rfl ?_); refine goesL_ (some 73) rfl rfl Tryd.func25 (by kernel_rfl) rfl #[.agg #[.int .i64 v, .slice none 0 0]] rfl (by (try simp only [List.map_toArray, List.map_cons, List.map_nil]); first | done | rfl) ?_; refine (impl_IsPuzzle.calls v none 0 [] _ _ (Kd.C_nil _ _) (Nat.le_refl 0) HIp.out).mono ?_; rintro e_ w_7 ⟨rfl, hb_⟩; refine ⟨_, rfl, ?_⟩; (try clear cB9_0 dB9_0 cB9_1 dB9_1); have u0_ := Hx.bb_below hb_ HB.out; have u1_ := Hx.b_below hb_ B2.out; have u2_ := Hx.b_below hb_ B9.out; clear HB B2 B9; have HB := Aside0.mk u0_; have B2 := Aside0.mk u1_; have B9 := Aside0.mk u2_; clear hb_ u0_ u1_ u2_; have c9_0 : w_7.cell? ⟨gB9, 0, none⟩ = some (.int .i64 v) := (blk_cell B9.out 0).trans rfl; have c9_1 : w_7.cell? ⟨gB9, 1, none⟩ = some (.slice none 0 0) := (blk_cell B9.out 1).trans rfl; have c2_0 : w_7.cell? ⟨gB2, 0, none⟩ = some (.int .i64 0) := (blk_cell B2.out 0).trans rfl; have d2_0 := blk_frozen B2.out 0; have c2_1 : w_7.cell? ⟨gB2, 1, none⟩ = some (.slice none 0 0) := (blk_cell B2.out 1).trans rfl; have d2_1 := blk_frozen B2.out 1) | (go_at_call 26; refine (impl_puzzleText.calls v none 0 [] _ _ (Kd.C_nil _ _) (Nat.le_refl 0) HTx.out).mono ?_; rintro e_ w_8 ⟨rfl, hb_⟩; clear c9_0 c9_1 c2_0 d2_0 c2_1 d2_1; have u0_ := Hx.bb_below hb_ HB.out; have u1_ := Hx.b_below hb_ B2.out; have u2_ := Hx.b_below hb_ B9.out; clear HB B2 B9; have HB := Aside0.mk u0_; have B2 := Aside0.mk u1_; have B9 := Aside0.mk u2_; clear hb_ u0_ u1_ u2_; have c9_0 : w_8.cell? ⟨gB9, 0, none⟩ = some (.int .i64 v) := (blk_cell B9.out 0).trans rfl; have c9_1 : w_8.cell? ⟨gB9, 1, none⟩ = some (.slice none 0 0) := (blk_cell B9.out 1).trans rfl; have c2_0 : w_8.cell? ⟨gB2, 0, none⟩ = some (.int .i64 0) := (blk_cell B2.out 0).trans rfl; have d2_0 := blk_frozen B2.out 0; have c2_1 : w_8.cell? ⟨gB2, 1, none⟩ = some (.slice none 0 0) := (blk_cell B2.out 1).trans rfl; have d2_1 := blk_frozen B2.out 1))
      exact bodyPost_ret (v := .tuple #[.agg #[.int .i64 0, .slice none 0 0], .bool false]) (by simp [results, Tryd.results11, go_sem, c2_0, c2_1]) rfl ⟨.slice none 0 0, by rw [HN.out], by rw [HN.out]; exact Kd.R_nil _ _ _ _ _, below_set (below_set HB.out (by have := ORD.out; omega)) (by have := ORD.out; omega)⟩

theorem ppHead_size (s : ByteArray) (h : s.size ≤ 1000000) : (ppHead s).size ≤ 1000000 ∧ (ppRest s).size ≤ 1000000 := by
  have hl : s.data.toList.length = s.size := rfl
  have h1 : (Lib.cut s.data.toList [102]).1.length ≤ s.data.toList.length ∧ (Lib.cut s.data.toList [102]).2.1.length ≤ s.data.toList.length := by
    unfold Lib.cut
    split
    · exact ⟨by simp only [List.length_take]; omega, by simp only [List.length_drop]; omega⟩
    · exact ⟨Nat.le_refl _, Nat.zero_le _⟩
  have e1 : (ppHead s).size = (Lib.cut s.data.toList [102]).1.length := by unfold ppHead ByteArray.size; simp
  have e2 : (ppRest s).size = (Lib.cut s.data.toList [102]).2.1.length := by unfold ppRest ByteArray.size; simp
  omega
theorem parsePuzzle.calls (w : World) (hP : PW w) (s : ByteArray) (hs : s.size ≤ 1000000) :
    Calls Tryd.prog 11 #[.string s] w fun e w' => ∃ vv, e = .returned (.tuple #[.agg #[.int .i64 (ppV s).1.1, vv], .bool (ppV s).2]) ∧ Kd.R k49 49 w' w.heap.size (fun _ => True) vv (ppV s).1.2 ∧ Below w.heap.size w w' := by
  obtain ⟨hh, hr⟩ := ppHead_size s hs
  by_cases hb : (Lib.cut s.data.toList [102]).2.2 = true
  · by_cases hv : ∃ v, Lib.atoiAll (ppHead s).data.toList = .ok v
    · obtain ⟨v, hv⟩ := hv
      by_cases h0 : (ppRest s).size = 0
      · exact parsePuzzle.good0 w hP s hs hh hr hb v hv h0
      · exact parsePuzzle.good w hP s hs hh hr hb v hv h0
    · have hn : ppV s = ((0, []), false) := by
        have hp : ppRead s = none := by
          unfold ppRead
          rw [if_pos hb]
          split
          · rename_i v hh2; exact absurd ⟨v, hh2⟩ hv
          · rfl
        unfold ppV
        rw [hp]
      rw [hn]
      exact (parsePuzzle.bad w hP s hs hh (.inr ⟨hb, fun v h_ => hv ⟨v, h_⟩⟩)).mono fun e w' h_ => ⟨_, h_.1, Kd.R_nil _ _ _ _ _, h_.2⟩
  · have hn : ppV s = ((0, []), false) := by
      have hp : ppRead s = none := by unfold ppRead; rw [if_neg hb]
      unfold ppV
      rw [hp]
    rw [hn]
    exact (parsePuzzle.bad w hP s hs hh (.inl (by cases h_ : (Lib.cut s.data.toList [102]).2.2 with | false => rfl | true => exact absurd h_ hb))).mono fun e w' h_ => ⟨_, h_.1, Kd.R_nil _ _ _ _ _, h_.2⟩
def impl_ParsePuzzle.f (s : ByteArray) : Option (Int × List S49 × Bool) := if s.size ≤ 1000000 then some ((ppV s).1.1, (ppV s).1.2, (ppV s).2) else none
theorem impl_ParsePuzzle.calls (a0 : ByteArray) (r1 : Int) (r2 : List S49) (r3 : Bool) (w : World) (hP : PW w) (h : impl_ParsePuzzle.f a0 = some (r1, r2, r3)) :
    Calls Tryd.prog 11 #[.string a0] w fun e w' => ∃ v1_ : Value, e = .returned (.tuple #[.agg #[.int .i64 r1, v1_], .bool r3]) ∧ Kd.R k49 49 w' w.heap.size (fun _ => True) v1_ r2 ∧ Below w.heap.size w w' := by
  unfold impl_ParsePuzzle.f at h
  by_cases hs : a0.size ≤ 1000000
  case neg => rw [if_neg hs] at h; cases h
  rw [if_pos hs] at h
  have h := Option.some.inj h
  injection h with h1 h
  injection h with h2 h3
  subst h1 h2 h3
  exact parsePuzzle.calls w hP a0 hs


/-! ### laws_eqClue: function 50 -/
def laws_eqClue.f (a0_0 : Int) (a0_1 : Int) (a0_2 : Int) (a1_0 : Int) (a1_1 : Int) (a1_2 : Int) : Option (Bool) := if a0_0 = a1_0 then (if a0_1 = a1_1 then (if a0_2 = a1_2 then (some true) else (some false)) else (some false)) else (some false)
set_option maxHeartbeats 8000000 in
set_option maxRecDepth 100000 in
theorem laws_eqClue.calls (a0_0 : Int) (a0_1 : Int) (a0_2 : Int) (a1_0 : Int) (a1_1 : Int) (a1_2 : Int) (r : Bool) (w : World) (h : laws_eqClue.f a0_0 a0_1 a0_2 a1_0 a1_1 a1_2 = some r) :
    Calls Tryd.prog 50 #[.agg #[.int .i64 a0_0, .int .i64 a0_1, .int .i64 a0_2], .agg #[.int .i64 a1_0, .int .i64 a1_1, .int .i64 a1_2]] w fun e w' => e = .returned (.bool r) ∧ Below w.heap.size w w' := by
  have hu49 := Tryd.underlying49
  have HB := Aside0.mk (Below.refl w.heap.size w)
  have H : (if a0_0 = a1_0 then (if a0_1 = a1_1 then (if a0_2 = a1_2 then (some true) else (some false)) else (some false)) else (some false)) = some r := h
  clear h
  by_cases c3 : a0_0 = a1_0
  · rw [if_pos c3] at H
    have c3b0 : (a0_0 == a1_0) = true := beq_iff_eq.mpr c3
    have c3b1 : (a0_0 != a1_0) = false := bne_eq_false_iff_eq.mpr c3
    clear c3
    by_cases c4 : a0_1 = a1_1
    · rw [if_pos c4] at H
      have c4b0 : (a0_1 == a1_1) = true := beq_iff_eq.mpr c4
      have c4b1 : (a0_1 != a1_1) = false := bne_eq_false_iff_eq.mpr c4
      clear c4
      by_cases c5 : a0_2 = a1_2
      · rw [if_pos c5] at H
        have c5b0 : (a0_2 == a1_2) = true := beq_iff_eq.mpr c5
        have c5b1 : (a0_2 != a1_2) = false := bne_eq_false_iff_eq.mpr c5
        clear c5
        obtain rfl := Option.some.inj H
        go_enter Tryd.func50, Tryd.ntmps50
        go_wp2_with (first | ((with_reducible refine gate_dst (N := 2) rfl ?_); refine box_event ?hg (N := 2) ?hd (cs := #[.int .i64 a0_0, .int .i64 a0_1, .int .i64 a0_2]) (t := 49) ?hr ?_; (case hd => rfl); (case hg => rfl); (case hr => first | (go_simp; done) | (go_simp; rfl)); intro gb205 hg w6 hbox hb; have n0_ := Aside0.mk (below_step (by repeat (first | (with_reducible first | exact HB.out | apply below_alloc | apply pw_below_drewN | apply below_drew1) | exact HB.out)) hb); have n1_ := Aside0.mk (hbox); have n2_ := Aside0.mk ((by rw [hg]; exact (below_size (by repeat (first | (with_reducible first | exact HB.out | apply below_alloc | apply pw_below_drewN | apply below_drew1) | exact HB.out))) : w.heap.size ≤ gb205)); have n3_ := Aside0.mk ((by rw [hg]; exact (below_size (by repeat (first | (with_reducible first | exact HB.out | apply below_alloc | apply pw_below_drewN | apply below_drew1) | exact HB.out))) : w.heap.size ≤ gb205)); clear HB; have HB := n0_; have BK205 := n1_; have GW205 := n2_; have GE205 := n3_; clear n0_ n1_ n2_ n3_; clear hb hbox hg) | ((with_reducible refine gate_dst (N := 3) rfl ?_); refine box_event ?hg (N := 3) ?hd (cs := #[.int .i64 a1_0, .int .i64 a1_1, .int .i64 a1_2]) (t := 49) ?hr ?_; (case hd => rfl); (case hg => rfl); (case hr => first | (go_simp; done) | (go_simp; rfl)); intro gb206 hg w7 hbox hb; have n0_ := Aside0.mk (blk_below (g := gb205) (o := .cells #[.int .i64 a0_0, .int .i64 a0_1, .int .i64 a0_2] 49 (0, 0)) (by (with_reducible repeat (first | refine blk_drewN ?_ _ | refine blk_drew ?_ | refine blk_alloc ?_ _)); exact BK205.out) hb); have n1_ := Aside0.mk (below_step (by repeat (first | (with_reducible first | exact HB.out | apply below_alloc | apply pw_below_drewN | apply below_drew1 | refine below_set ?_ GE205.out) | exact HB.out)) hb); have n2_ := Aside0.mk (hbox); have n3_ := Aside0.mk ((by rw [hg]; exact (below_size (by repeat (first | (with_reducible first | exact HB.out | apply below_alloc | apply pw_below_drewN | apply below_drew1 | refine below_set ?_ GE205.out) | exact HB.out))) : w.heap.size ≤ gb206)); have n4_ := Aside0.mk ((by rw [hg]; exact (below_size (by repeat (first | (with_reducible first | exact HB.out | apply below_alloc | apply pw_below_drewN | apply below_drew1 | refine below_set ?_ GE205.out) | exact HB.out))) : w.heap.size ≤ gb206)); have n5_ := Aside0.mk ((by rw [hg]; exact Nat.ne_of_lt (blk_lt (g := gb205) (o := .cells #[.int .i64 a0_0, .int .i64 a0_1, .int .i64 a0_2] 49 (0, 0)) (by (with_reducible repeat (first | refine blk_drewN ?_ _ | refine blk_drew ?_ | refine blk_alloc ?_ _)); exact BK205.out)) : gb205 ≠ gb206)); have n6_ := Aside0.mk ((by rw [hg]; exact Nat.ne_of_gt (blk_lt (g := gb205) (o := .cells #[.int .i64 a0_0, .int .i64 a0_1, .int .i64 a0_2] 49 (0, 0)) (by (with_reducible repeat (first | refine blk_drewN ?_ _ | refine blk_drew ?_ | refine blk_alloc ?_ _)); exact BK205.out)) : gb206 ≠ gb205)); clear BK205; clear HB; have BK205 := n0_; have HB := n1_; have BK206 := n2_; have GW206 := n3_; have GE206 := n4_; have NB205_206 := n5_; have NB206_205 := n6_; clear n0_ n1_ n2_ n3_ n4_ n5_ n6_; clear hb hbox hg; have hnb8 := NB205_206.out; have hnc8 := NB206_205.out; have hcz9_0 : w7.cell? ⟨gb205, 0, none⟩ = some (.int .i64 a0_0) := (blk_cell BK205.out 0).trans rfl; have hcz9_1 : w7.cell? ⟨gb205, 1, none⟩ = some (.int .i64 a0_1) := (blk_cell BK205.out 1).trans rfl; have hcz9_2 : w7.cell? ⟨gb205, 2, none⟩ = some (.int .i64 a0_2) := (blk_cell BK205.out 2).trans rfl; have hfz9_0 := blk_frozen BK205.out 0; have hfz9_1 := blk_frozen BK205.out 1; have hfz9_2 := blk_frozen BK205.out 2; have hcz10_0 : w7.cell? ⟨gb206, 0, none⟩ = some (.int .i64 a1_0) := (blk_cell BK206.out 0).trans rfl; have hcz10_1 : w7.cell? ⟨gb206, 1, none⟩ = some (.int .i64 a1_1) := (blk_cell BK206.out 1).trans rfl; have hcz10_2 : w7.cell? ⟨gb206, 2, none⟩ = some (.int .i64 a1_2) := (blk_cell BK206.out 2).trans rfl; have hfz10_0 := blk_frozen BK206.out 0; have hfz10_1 := blk_frozen BK206.out 1; have hfz10_2 := blk_frozen BK206.out 2))
        go_ret
        exact ⟨by first | rfl | (simp [errW_none, errW_some] <;> rfl) | (simp [*, errW_none, errW_some] <;> rfl), by repeat (first | (with_reducible first | exact HB.out | apply below_alloc | apply pw_below_drewN | apply below_drew1 | refine below_set ?_ GE205.out | refine below_set ?_ GE206.out) | exact HB.out)⟩
      · rw [if_neg c5] at H
        have c5b0 : (a0_2 == a1_2) = false := beq_eq_false_iff_ne.mpr c5
        have c5b1 : (a0_2 != a1_2) = true := bne_iff_ne.mpr c5
        obtain rfl := Option.some.inj H
        go_enter Tryd.func50, Tryd.ntmps50
        go_wp2_with (first | ((with_reducible refine gate_dst (N := 2) rfl ?_); refine box_event ?hg (N := 2) ?hd (cs := #[.int .i64 a0_0, .int .i64 a0_1, .int .i64 a0_2]) (t := 49) ?hr ?_; (case hd => rfl); (case hg => rfl); (case hr => first | (go_simp; done) | (go_simp; rfl)); intro gb205 hg w11 hbox hb; have n0_ := Aside0.mk (below_step (by repeat (first | (with_reducible first | exact HB.out | apply below_alloc | apply pw_below_drewN | apply below_drew1) | exact HB.out)) hb); have n1_ := Aside0.mk (hbox); have n2_ := Aside0.mk ((by rw [hg]; exact (below_size (by repeat (first | (with_reducible first | exact HB.out | apply below_alloc | apply pw_below_drewN | apply below_drew1) | exact HB.out))) : w.heap.size ≤ gb205)); have n3_ := Aside0.mk ((by rw [hg]; exact (below_size (by repeat (first | (with_reducible first | exact HB.out | apply below_alloc | apply pw_below_drewN | apply below_drew1) | exact HB.out))) : w.heap.size ≤ gb205)); clear HB; have HB := n0_; have BK205 := n1_; have GW205 := n2_; have GE205 := n3_; clear n0_ n1_ n2_ n3_; clear hb hbox hg) | ((with_reducible refine gate_dst (N := 3) rfl ?_); refine box_event ?hg (N := 3) ?hd (cs := #[.int .i64 a1_0, .int .i64 a1_1, .int .i64 a1_2]) (t := 49) ?hr ?_; (case hd => rfl); (case hg => rfl); (case hr => first | (go_simp; done) | (go_simp; rfl)); intro gb206 hg w12 hbox hb; have n0_ := Aside0.mk (blk_below (g := gb205) (o := .cells #[.int .i64 a0_0, .int .i64 a0_1, .int .i64 a0_2] 49 (0, 0)) (by (with_reducible repeat (first | refine blk_drewN ?_ _ | refine blk_drew ?_ | refine blk_alloc ?_ _)); exact BK205.out) hb); have n1_ := Aside0.mk (below_step (by repeat (first | (with_reducible first | exact HB.out | apply below_alloc | apply pw_below_drewN | apply below_drew1 | refine below_set ?_ GE205.out) | exact HB.out)) hb); have n2_ := Aside0.mk (hbox); have n3_ := Aside0.mk ((by rw [hg]; exact (below_size (by repeat (first | (with_reducible first | exact HB.out | apply below_alloc | apply pw_below_drewN | apply below_drew1 | refine below_set ?_ GE205.out) | exact HB.out))) : w.heap.size ≤ gb206)); have n4_ := Aside0.mk ((by rw [hg]; exact (below_size (by repeat (first | (with_reducible first | exact HB.out | apply below_alloc | apply pw_below_drewN | apply below_drew1 | refine below_set ?_ GE205.out) | exact HB.out))) : w.heap.size ≤ gb206)); have n5_ := Aside0.mk ((by rw [hg]; exact Nat.ne_of_lt (blk_lt (g := gb205) (o := .cells #[.int .i64 a0_0, .int .i64 a0_1, .int .i64 a0_2] 49 (0, 0)) (by (with_reducible repeat (first | refine blk_drewN ?_ _ | refine blk_drew ?_ | refine blk_alloc ?_ _)); exact BK205.out)) : gb205 ≠ gb206)); have n6_ := Aside0.mk ((by rw [hg]; exact Nat.ne_of_gt (blk_lt (g := gb205) (o := .cells #[.int .i64 a0_0, .int .i64 a0_1, .int .i64 a0_2] 49 (0, 0)) (by (with_reducible repeat (first | refine blk_drewN ?_ _ | refine blk_drew ?_ | refine blk_alloc ?_ _)); exact BK205.out)) : gb206 ≠ gb205)); clear BK205; clear HB; have BK205 := n0_; have HB := n1_; have BK206 := n2_; have GW206 := n3_; have GE206 := n4_; have NB205_206 := n5_; have NB206_205 := n6_; clear n0_ n1_ n2_ n3_ n4_ n5_ n6_; clear hb hbox hg; have hnb13 := NB205_206.out; have hnc13 := NB206_205.out; have hcz14_0 : w12.cell? ⟨gb205, 0, none⟩ = some (.int .i64 a0_0) := (blk_cell BK205.out 0).trans rfl; have hcz14_1 : w12.cell? ⟨gb205, 1, none⟩ = some (.int .i64 a0_1) := (blk_cell BK205.out 1).trans rfl; have hcz14_2 : w12.cell? ⟨gb205, 2, none⟩ = some (.int .i64 a0_2) := (blk_cell BK205.out 2).trans rfl; have hfz14_0 := blk_frozen BK205.out 0; have hfz14_1 := blk_frozen BK205.out 1; have hfz14_2 := blk_frozen BK205.out 2; have hcz15_0 : w12.cell? ⟨gb206, 0, none⟩ = some (.int .i64 a1_0) := (blk_cell BK206.out 0).trans rfl; have hcz15_1 : w12.cell? ⟨gb206, 1, none⟩ = some (.int .i64 a1_1) := (blk_cell BK206.out 1).trans rfl; have hcz15_2 : w12.cell? ⟨gb206, 2, none⟩ = some (.int .i64 a1_2) := (blk_cell BK206.out 2).trans rfl; have hfz15_0 := blk_frozen BK206.out 0; have hfz15_1 := blk_frozen BK206.out 1; have hfz15_2 := blk_frozen BK206.out 2))
        go_ret
        exact ⟨by first | rfl | (simp [errW_none, errW_some] <;> rfl) | (simp [*, errW_none, errW_some] <;> rfl), by repeat (first | (with_reducible first | exact HB.out | apply below_alloc | apply pw_below_drewN | apply below_drew1 | refine below_set ?_ GE205.out | refine below_set ?_ GE206.out) | exact HB.out)⟩
    · rw [if_neg c4] at H
      have c4b0 : (a0_1 == a1_1) = false := beq_eq_false_iff_ne.mpr c4
      have c4b1 : (a0_1 != a1_1) = true := bne_iff_ne.mpr c4
      obtain rfl := Option.some.inj H
      go_enter Tryd.func50, Tryd.ntmps50
      go_wp2_with (first | ((with_reducible refine gate_dst (N := 2) rfl ?_); refine box_event ?hg (N := 2) ?hd (cs := #[.int .i64 a0_0, .int .i64 a0_1, .int .i64 a0_2]) (t := 49) ?hr ?_; (case hd => rfl); (case hg => rfl); (case hr => first | (go_simp; done) | (go_simp; rfl)); intro gb205 hg w16 hbox hb; have n0_ := Aside0.mk (below_step (by repeat (first | (with_reducible first | exact HB.out | apply below_alloc | apply pw_below_drewN | apply below_drew1) | exact HB.out)) hb); have n1_ := Aside0.mk (hbox); have n2_ := Aside0.mk ((by rw [hg]; exact (below_size (by repeat (first | (with_reducible first | exact HB.out | apply below_alloc | apply pw_below_drewN | apply below_drew1) | exact HB.out))) : w.heap.size ≤ gb205)); have n3_ := Aside0.mk ((by rw [hg]; exact (below_size (by repeat (first | (with_reducible first | exact HB.out | apply below_alloc | apply pw_below_drewN | apply below_drew1) | exact HB.out))) : w.heap.size ≤ gb205)); clear HB; have HB := n0_; have BK205 := n1_; have GW205 := n2_; have GE205 := n3_; clear n0_ n1_ n2_ n3_; clear hb hbox hg) | ((with_reducible refine gate_dst (N := 3) rfl ?_); refine box_event ?hg (N := 3) ?hd (cs := #[.int .i64 a1_0, .int .i64 a1_1, .int .i64 a1_2]) (t := 49) ?hr ?_; (case hd => rfl); (case hg => rfl); (case hr => first | (go_simp; done) | (go_simp; rfl)); intro gb206 hg w17 hbox hb; have n0_ := Aside0.mk (blk_below (g := gb205) (o := .cells #[.int .i64 a0_0, .int .i64 a0_1, .int .i64 a0_2] 49 (0, 0)) (by (with_reducible repeat (first | refine blk_drewN ?_ _ | refine blk_drew ?_ | refine blk_alloc ?_ _)); exact BK205.out) hb); have n1_ := Aside0.mk (below_step (by repeat (first | (with_reducible first | exact HB.out | apply below_alloc | apply pw_below_drewN | apply below_drew1 | refine below_set ?_ GE205.out) | exact HB.out)) hb); have n2_ := Aside0.mk (hbox); have n3_ := Aside0.mk ((by rw [hg]; exact (below_size (by repeat (first | (with_reducible first | exact HB.out | apply below_alloc | apply pw_below_drewN | apply below_drew1 | refine below_set ?_ GE205.out) | exact HB.out))) : w.heap.size ≤ gb206)); have n4_ := Aside0.mk ((by rw [hg]; exact (below_size (by repeat (first | (with_reducible first | exact HB.out | apply below_alloc | apply pw_below_drewN | apply below_drew1 | refine below_set ?_ GE205.out) | exact HB.out))) : w.heap.size ≤ gb206)); have n5_ := Aside0.mk ((by rw [hg]; exact Nat.ne_of_lt (blk_lt (g := gb205) (o := .cells #[.int .i64 a0_0, .int .i64 a0_1, .int .i64 a0_2] 49 (0, 0)) (by (with_reducible repeat (first | refine blk_drewN ?_ _ | refine blk_drew ?_ | refine blk_alloc ?_ _)); exact BK205.out)) : gb205 ≠ gb206)); have n6_ := Aside0.mk ((by rw [hg]; exact Nat.ne_of_gt (blk_lt (g := gb205) (o := .cells #[.int .i64 a0_0, .int .i64 a0_1, .int .i64 a0_2] 49 (0, 0)) (by (with_reducible repeat (first | refine blk_drewN ?_ _ | refine blk_drew ?_ | refine blk_alloc ?_ _)); exact BK205.out)) : gb206 ≠ gb205)); clear BK205; clear HB; have BK205 := n0_; have HB := n1_; have BK206 := n2_; have GW206 := n3_; have GE206 := n4_; have NB205_206 := n5_; have NB206_205 := n6_; clear n0_ n1_ n2_ n3_ n4_ n5_ n6_; clear hb hbox hg; have hnb18 := NB205_206.out; have hnc18 := NB206_205.out; have hcz19_0 : w17.cell? ⟨gb205, 0, none⟩ = some (.int .i64 a0_0) := (blk_cell BK205.out 0).trans rfl; have hcz19_1 : w17.cell? ⟨gb205, 1, none⟩ = some (.int .i64 a0_1) := (blk_cell BK205.out 1).trans rfl; have hcz19_2 : w17.cell? ⟨gb205, 2, none⟩ = some (.int .i64 a0_2) := (blk_cell BK205.out 2).trans rfl; have hfz19_0 := blk_frozen BK205.out 0; have hfz19_1 := blk_frozen BK205.out 1; have hfz19_2 := blk_frozen BK205.out 2; have hcz20_0 : w17.cell? ⟨gb206, 0, none⟩ = some (.int .i64 a1_0) := (blk_cell BK206.out 0).trans rfl; have hcz20_1 : w17.cell? ⟨gb206, 1, none⟩ = some (.int .i64 a1_1) := (blk_cell BK206.out 1).trans rfl; have hcz20_2 : w17.cell? ⟨gb206, 2, none⟩ = some (.int .i64 a1_2) := (blk_cell BK206.out 2).trans rfl; have hfz20_0 := blk_frozen BK206.out 0; have hfz20_1 := blk_frozen BK206.out 1; have hfz20_2 := blk_frozen BK206.out 2))
      go_ret
      exact ⟨by first | rfl | (simp [errW_none, errW_some] <;> rfl) | (simp [*, errW_none, errW_some] <;> rfl), by repeat (first | (with_reducible first | exact HB.out | apply below_alloc | apply pw_below_drewN | apply below_drew1 | refine below_set ?_ GE205.out | refine below_set ?_ GE206.out) | exact HB.out)⟩
  · rw [if_neg c3] at H
    have c3b0 : (a0_0 == a1_0) = false := beq_eq_false_iff_ne.mpr c3
    have c3b1 : (a0_0 != a1_0) = true := bne_iff_ne.mpr c3
    obtain rfl := Option.some.inj H
    go_enter Tryd.func50, Tryd.ntmps50
    go_wp2_with (first | ((with_reducible refine gate_dst (N := 2) rfl ?_); refine box_event ?hg (N := 2) ?hd (cs := #[.int .i64 a0_0, .int .i64 a0_1, .int .i64 a0_2]) (t := 49) ?hr ?_; (case hd => rfl); (case hg => rfl); (case hr => first | (go_simp; done) | (go_simp; rfl)); intro gb205 hg w21 hbox hb; have n0_ := Aside0.mk (below_step (by repeat (first | (with_reducible first | exact HB.out | apply below_alloc | apply pw_below_drewN | apply below_drew1) | exact HB.out)) hb); have n1_ := Aside0.mk (hbox); have n2_ := Aside0.mk ((by rw [hg]; exact (below_size (by repeat (first | (with_reducible first | exact HB.out | apply below_alloc | apply pw_below_drewN | apply below_drew1) | exact HB.out))) : w.heap.size ≤ gb205)); have n3_ := Aside0.mk ((by rw [hg]; exact (below_size (by repeat (first | (with_reducible first | exact HB.out | apply below_alloc | apply pw_below_drewN | apply below_drew1) | exact HB.out))) : w.heap.size ≤ gb205)); clear HB; have HB := n0_; have BK205 := n1_; have GW205 := n2_; have GE205 := n3_; clear n0_ n1_ n2_ n3_; clear hb hbox hg) | ((with_reducible refine gate_dst (N := 3) rfl ?_); refine box_event ?hg (N := 3) ?hd (cs := #[.int .i64 a1_0, .int .i64 a1_1, .int .i64 a1_2]) (t := 49) ?hr ?_; (case hd => rfl); (case hg => rfl); (case hr => first | (go_simp; done) | (go_simp; rfl)); intro gb206 hg w22 hbox hb; have n0_ := Aside0.mk (blk_below (g := gb205) (o := .cells #[.int .i64 a0_0, .int .i64 a0_1, .int .i64 a0_2] 49 (0, 0)) (by (with_reducible repeat (first | refine blk_drewN ?_ _ | refine blk_drew ?_ | refine blk_alloc ?_ _)); exact BK205.out) hb); have n1_ := Aside0.mk (below_step (by repeat (first | (with_reducible first | exact HB.out | apply below_alloc | apply pw_below_drewN | apply below_drew1 | refine below_set ?_ GE205.out) | exact HB.out)) hb); have n2_ := Aside0.mk (hbox); have n3_ := Aside0.mk ((by rw [hg]; exact (below_size (by repeat (first | (with_reducible first | exact HB.out | apply below_alloc | apply pw_below_drewN | apply below_drew1 | refine below_set ?_ GE205.out) | exact HB.out))) : w.heap.size ≤ gb206)); have n4_ := Aside0.mk ((by rw [hg]; exact (below_size (by repeat (first | (with_reducible first | exact HB.out | apply below_alloc | apply pw_below_drewN | apply below_drew1 | refine below_set ?_ GE205.out) | exact HB.out))) : w.heap.size ≤ gb206)); have n5_ := Aside0.mk ((by rw [hg]; exact Nat.ne_of_lt (blk_lt (g := gb205) (o := .cells #[.int .i64 a0_0, .int .i64 a0_1, .int .i64 a0_2] 49 (0, 0)) (by (with_reducible repeat (first | refine blk_drewN ?_ _ | refine blk_drew ?_ | refine blk_alloc ?_ _)); exact BK205.out)) : gb205 ≠ gb206)); have n6_ := Aside0.mk ((by rw [hg]; exact Nat.ne_of_gt (blk_lt (g := gb205) (o := .cells #[.int .i64 a0_0, .int .i64 a0_1, .int .i64 a0_2] 49 (0, 0)) (by (with_reducible repeat (first | refine blk_drewN ?_ _ | refine blk_drew ?_ | refine blk_alloc ?_ _)); exact BK205.out)) : gb206 ≠ gb205)); clear BK205; clear HB; have BK205 := n0_; have HB := n1_; have BK206 := n2_; have GW206 := n3_; have GE206 := n4_; have NB205_206 := n5_; have NB206_205 := n6_; clear n0_ n1_ n2_ n3_ n4_ n5_ n6_; clear hb hbox hg; have hnb23 := NB205_206.out; have hnc23 := NB206_205.out; have hcz24_0 : w22.cell? ⟨gb205, 0, none⟩ = some (.int .i64 a0_0) := (blk_cell BK205.out 0).trans rfl; have hcz24_1 : w22.cell? ⟨gb205, 1, none⟩ = some (.int .i64 a0_1) := (blk_cell BK205.out 1).trans rfl; have hcz24_2 : w22.cell? ⟨gb205, 2, none⟩ = some (.int .i64 a0_2) := (blk_cell BK205.out 2).trans rfl; have hfz24_0 := blk_frozen BK205.out 0; have hfz24_1 := blk_frozen BK205.out 1; have hfz24_2 := blk_frozen BK205.out 2; have hcz25_0 : w22.cell? ⟨gb206, 0, none⟩ = some (.int .i64 a1_0) := (blk_cell BK206.out 0).trans rfl; have hcz25_1 : w22.cell? ⟨gb206, 1, none⟩ = some (.int .i64 a1_1) := (blk_cell BK206.out 1).trans rfl; have hcz25_2 : w22.cell? ⟨gb206, 2, none⟩ = some (.int .i64 a1_2) := (blk_cell BK206.out 2).trans rfl; have hfz25_0 := blk_frozen BK206.out 0; have hfz25_1 := blk_frozen BK206.out 1; have hfz25_2 := blk_frozen BK206.out 2))
    go_ret
    exact ⟨by first | rfl | (simp [errW_none, errW_some] <;> rfl) | (simp [*, errW_none, errW_some] <;> rfl), by repeat (first | (with_reducible first | exact HB.out | apply below_alloc | apply pw_below_drewN | apply below_drew1 | refine below_set ?_ GE205.out | refine below_set ?_ GE206.out) | exact HB.out)⟩

end Go.Proofs.YtmakhnpjfdgocaaDoor.P
