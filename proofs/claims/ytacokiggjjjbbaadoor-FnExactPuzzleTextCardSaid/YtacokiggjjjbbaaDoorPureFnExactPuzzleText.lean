/- The law FnExactPuzzleText: for every argument the call returns true. No condition beside what a machine's values are. -/
import Derived.Test.YtacokiggjjjbbaaDoorHw
import Derived.Test.YtacokiggjjjbbaaDoorTel1
import Derived.Test.YtacokiggjjjbbaaDoorTeclue
import Derived.Test.YtacokiggjjjbbaaDoorTegood
import Derived.Test.YtacokiggjjjbbaaDoorTeszPuzzle
namespace Go.Proofs.YtacokiggjjjbbaaDoor.Pure
open Go.RowKit Go.Proofs.YtacokiggjjjbbaaDoor Go.Proofs.YtacokiggjjjbbaaDoor.T Go.Proofs.YtacokiggjjjbbaaDoorW.PrintWords Go.Proofs.YtacokiggjjjbbaaDoorW.PrintLast Go.Proofs.YtacokiggjjjbbaaDoorW.PrintMore
set_option linter.unusedVariables false
set_option linter.unusedSimpArgs false

theorem ba_ext {a b : ByteArray} (h : a.data.toList = b.data.toList) : a = b := by
  cases a; cases b
  simp only [ByteArray.mk.injEq]
  exact Array.toList_inj.1 h
theorem ba_app (a b : ByteArray) : (a ++ b).data.toList = a.data.toList ++ b.data.toList := by
  rw [ByteArray.data_append, Array.toList_append]
theorem dig1 {n : Nat} (h : n < 10) : Lib.decDigits n = [UInt8.ofNat (48 + n)] := by rw [Lib.decDigits, dif_pos h]
theorem dig2 {n : Nat} (h : ¬ n < 10) (h2 : n < 100) : Lib.decDigits n = [UInt8.ofNat (48 + n / 10), UInt8.ofNat (48 + n % 10)] := by
  rw [Lib.decDigits, dif_neg h, dig1 (by omega)]
  rfl
theorem str1 (x : Int) (n : Nat) (h : x = (n : Int)) : strOfNums [x] = ⟨#[UInt8.ofNat n]⟩ := by
  subst h
  rfl
theorem l1Num_small {a : Int} (h : 0 ≤ a ∧ a < 100) (k : Nat) (hk : 2 ≤ k) : spec_l1Num.f k a = some (sItoa a) := by
  obtain ⟨k, rfl⟩ : ∃ m, k = m + 2 := ⟨k - 2, by omega⟩
  obtain ⟨n, rfl⟩ : ∃ n : Nat, a = n := ⟨a.toNat, by omega⟩
  unfold sItoa
  rw [Int.toNat_natCast]
  rw [spec_l1Num.f]
  by_cases h1 : n < 10
  · rw [if_pos (by omega), dig1 h1, Hw.wrap_id (by omega) (by omega), str1 _ (48 + n) (by omega)]
  · rw [if_neg (by omega), dig2 h1 (by omega), spec_l1Num.f]
    have e1 : wrap64 (Int.tdiv (n : Int) 10) = ((n / 10 : Nat) : Int) := by rw [Int.tdiv_eq_ediv_of_nonneg (by omega), Hw.wrap_id (by omega) (by omega)]; omega
    have e2 : Int.tmod (n : Int) 10 = ((n % 10 : Nat) : Int) := by rw [Int.tmod_eq_emod_of_nonneg (by omega)]; omega
    rw [e1, e2, if_pos (by omega), Option.bind_some, Option.bind_some, Hw.wrap_id (i := 48 + ((n / 10 : Nat) : Int)) (by omega) (by omega), Hw.wrap_id (i := 48 + ((n % 10 : Nat) : Int)) (by omega) (by omega), str1 _ (48 + n / 10) (by omega), str1 _ (48 + n % 10) (by omega), if_pos (by show (1 : Nat) + 1 ≤ 9223372036854775807; omega)]
    rfl
def ctS (x : S41) : ByteArray := (((sItoa x.f0 ++ (⟨#[46]⟩ : ByteArray)) ++ sItoa x.f1) ++ (⟨#[46]⟩ : ByteArray)) ++ sItoa x.f2
theorem ctS_eq (x : S41) : ctS x = cTxt x := by
  apply ba_ext
  unfold ctS cTxt nTxt
  simp only [ba_app, List.map_cons, List.map_nil]
  rw [Lib.join_cons]
  simp [Lib.joinTail]
theorem ctS_eq' (x : S41) : (((sItoa x.f0 ++ (⟨#[46]⟩ : ByteArray)) ++ sItoa x.f1) ++ (⟨#[46]⟩ : ByteArray)) ++ sItoa x.f2 = cTxt x := ctS_eq x
theorem sItoa_size {n : Int} (h : 0 ≤ n ∧ n < 100) : (sItoa n).size ≤ 2 := dig_len (n := n.toNat) (by omega)
def tlB : List S41 → ByteArray
  | [] => ⟨#[]⟩
  | x :: r => ((⟨#[44]⟩ : ByteArray) ++ cTxt x) ++ tlB r
theorem ba_assoc (a b c : ByteArray) : (a ++ b) ++ c = a ++ (b ++ c) := ba_ext (by simp only [ba_app, List.append_assoc])
theorem ba_nil (a : ByteArray) : a ++ (⟨#[]⟩ : ByteArray) = a := ba_ext (by rw [ba_app]; simp)
theorem pzText_step {L : List S41} {i k : Nat} {acc s0 s1 s2 : ByteArray} (hi : 1 ≤ i) (hlt : i < L.length) (hL : L.length ≤ 1000) (ha : acc.size ≤ 20000) (z0 : s0.size ≤ 2) (z1 : s1.size ≤ 2) (z2 : s2.size ≤ 2)
    (n0 : spec_l1Num.f k ((rd_T41 L (i : Int)).f0) = some s0) (n1 : spec_l1Num.f k ((rd_T41 L (i : Int)).f1) = some s1) (n2 : spec_l1Num.f k ((rd_T41 L (i : Int)).f2) = some s2) :
    spec_pzText.l0 (k + 1) acc L (L.length : Int) (i : Int) = spec_pzText.l0 k ((acc ++ (⟨#[44]⟩ : ByteArray)) ++ ((((s0 ++ (⟨#[46]⟩ : ByteArray)) ++ s1) ++ (⟨#[46]⟩ : ByteArray)) ++ s2)) L (L.length : Int) ((i + 1 : Nat) : Int) := by
  have w : wrap64 ((i : Int) + 1) = ((i + 1 : Nat) : Int) := by rw [Hw.wrap_id (by omega) (by omega)]; omega
  have s46 : (⟨#[46]⟩ : ByteArray).size = 1 := rfl
  have s44 : (⟨#[44]⟩ : ByteArray).size = 1 := rfl
  simp only [spec_pzText.l0]
  refine Hw.ite_of (by omega) (Hw.ite_of (by omega) (Hw.ite_of (by omega) (Hw.ite_of (by omega) (Hw.ite_of (by omega) (Hw.bind_of n0 (Hw.ite_of (by omega) (Hw.bind_of n1 (Hw.ite_of (by rw [ByteArray.size_append]; omega) (Hw.ite_of (by simp only [ByteArray.size_append]; omega) (Hw.bind_of n2 (Hw.ite_of (by simp only [ByteArray.size_append]; omega) (Hw.ite_of (by simp only [ByteArray.size_append]; omega) ?_))))))))))))
  rw [w]
theorem pzText_step0 {L : List S41} {k : Nat} {acc s0 s1 s2 : ByteArray} (hlt : 0 < L.length) (hL : L.length ≤ 1000) (ha : acc.size ≤ 20000) (z0 : s0.size ≤ 2) (z1 : s1.size ≤ 2) (z2 : s2.size ≤ 2)
    (n0 : spec_l1Num.f k ((rd_T41 L 0).f0) = some s0) (n1 : spec_l1Num.f k ((rd_T41 L 0).f1) = some s1) (n2 : spec_l1Num.f k ((rd_T41 L 0).f2) = some s2) :
    spec_pzText.l0 (k + 1) acc L (L.length : Int) 0 = spec_pzText.l0 k (acc ++ ((((s0 ++ (⟨#[46]⟩ : ByteArray)) ++ s1) ++ (⟨#[46]⟩ : ByteArray)) ++ s2)) L (L.length : Int) ((1 : Nat) : Int) := by
  have w : wrap64 ((0 : Int) + 1) = ((1 : Nat) : Int) := by rw [Hw.wrap_id (by omega) (by omega)]; omega
  have s46 : (⟨#[46]⟩ : ByteArray).size = 1 := rfl
  have s44 : (⟨#[44]⟩ : ByteArray).size = 1 := rfl
  simp only [spec_pzText.l0]
  refine Hw.ite_of (by omega) (Hw.ite_of (by omega) (Hw.ite_of (by omega) (Hw.ite_no (by omega) (Hw.bind_of n0 (Hw.ite_of (by omega) (Hw.bind_of n1 (Hw.ite_of (by rw [ByteArray.size_append]; omega) (Hw.ite_of (by simp only [ByteArray.size_append]; omega) (Hw.bind_of n2 (Hw.ite_of (by simp only [ByteArray.size_append]; omega) (Hw.ite_of (by simp only [ByteArray.size_append]; omega) ?_)))))))))))
  rw [w]
theorem size5 {s0 s1 s2 : ByteArray} (z0 : s0.size ≤ 2) (z1 : s1.size ≤ 2) (z2 : s2.size ≤ 2) : ((((s0 ++ (⟨#[46]⟩ : ByteArray)) ++ s1) ++ (⟨#[46]⟩ : ByteArray)) ++ s2).size ≤ 8 := by
  have s46 : (⟨#[46]⟩ : ByteArray).size = 1 := rfl
  simp only [ByteArray.size_append]
  omega
theorem size6 {acc c : ByteArray} {i : Nat} (h : acc.size ≤ 100 + i * 10) (h2 : c.size ≤ 8) : ((acc ++ (⟨#[44]⟩ : ByteArray)) ++ c).size ≤ 100 + (i + 1) * 10 := by
  have s44 : (⟨#[44]⟩ : ByteArray).size = 1 := rfl
  simp only [ByteArray.size_append]
  omega
theorem pzText_l0 {L : List S41} (hL : L.length ≤ 1000) (hs : L.all smallCB = true) : ∀ (d i k : Nat) (acc : ByteArray), 1 ≤ i → i + d = L.length → d + 3 < k → acc.size ≤ 100 + i * 10 →
    spec_pzText.l0 k acc L (L.length : Int) (i : Int) = some (acc ++ tlB (L.drop i))
  | 0, i, k, acc, h1, h2, h3, h4 => by
    obtain ⟨k, rfl⟩ : ∃ m, k = m + 1 := ⟨k - 1, by omega⟩
    rw [spec_pzText.l0, if_neg (by omega), List.drop_of_length_le (by omega)]
    rw [tlB, ba_nil]
  | d + 1, i, k, acc, h1, h2, h3, h4 => by
    obtain ⟨k, rfl⟩ : ∃ m, k = m + 1 := ⟨k - 1, by omega⟩
    have hlt : i < L.length := by omega
    have hk2 : 2 ≤ k := by omega
    have ha : acc.size ≤ 20000 := by omega
    have hx : rd_T41 L (i : Int) = L[i] := by simp [rd_T41, hlt]
    have hd : L.drop i = L[i] :: L.drop (i + 1) := (List.getElem_cons_drop hlt).symm
    have hc := of_decide_eq_true (List.all_eq_true.1 hs L[i] (List.getElem_mem hlt))
    have e1 : i + 1 + d = L.length := by omega
    have e2 : d + 3 < k := by omega
    rw [pzText_step h1 hlt hL ha (sItoa_size hc.1) (sItoa_size hc.2.1) (sItoa_size hc.2.2) (by rw [hx]; exact l1Num_small hc.1 k hk2) (by rw [hx]; exact l1Num_small hc.2.1 k hk2) (by rw [hx]; exact l1Num_small hc.2.2 k hk2)]
    rw [pzText_l0 hL hs d (i + 1) k _ (Nat.le_add_left 1 i) e1 e2 (size6 h4 (size5 (sItoa_size hc.1) (sItoa_size hc.2.1) (sItoa_size hc.2.2))), hd, tlB]
    rw [ctS_eq']
    simp only [ba_assoc]
theorem tlB_list : ∀ l : List S41, (tlB l).data.toList = Lib.joinTail [44] ((l.map cTxt).map (·.data.toList))
  | [] => rfl
  | x :: r => by
    rw [tlB, ba_app, ba_app, tlB_list r]
    simp [Lib.joinTail]
theorem pzText_is {fl : Int} {L : List S41} (h : smallPz fl L = true) (k : Nat) (hk : L.length + 5 < k) : spec_pzText.f k fl L = some (pTxt fl L) := by
  unfold smallPz at h
  have h1 := Bool.and_eq_true_iff.1 h
  have h2 := Bool.and_eq_true_iff.1 h1.1
  have hf := of_decide_eq_true h2.1
  have hl := of_decide_eq_true h2.2
  have hs := h1.2
  obtain ⟨s, hs1⟩ : ∃ s, s = sItoa fl := ⟨_, rfl⟩
  have z : s.size ≤ 2 := by rw [hs1]; exact sItoa_size hf
  have zz : (s ++ (⟨#[102]⟩ : ByteArray)).size = s.size + 1 := by rw [ByteArray.size_append]; rfl
  have n : spec_l1Num.f k fl = some s := by rw [hs1]; exact l1Num_small hf k (by omega)
  unfold spec_pzText.f
  refine Hw.bind_of n (Hw.ite_of (by omega) ?_)
  unfold pTxt
  rw [← hs1]
  obtain ⟨k, rfl⟩ : ∃ m, k = m + 1 := ⟨k - 1, by omega⟩
  cases L with
  | nil =>
    rw [spec_pzText.l0, if_neg (by simp)]
    congr 1
    exact ba_ext (by rw [ba_app]; simp [jTxt, Lib.join_nil])
  | cons x r =>
    have hc := of_decide_eq_true (List.all_eq_true.1 hs x List.mem_cons_self)
    have hx : rd_T41 (x :: r) 0 = x := rfl
    have hlen : (x :: r).length = r.length + 1 := List.length_cons
    have hk2 : 2 ≤ k := by omega
    have e0 : 0 < (x :: r).length := by omega
    have e1 : 1 + r.length = (x :: r).length := by omega
    have e2 : r.length + 3 < k := by omega
    have ha : (s ++ (⟨#[102]⟩ : ByteArray)).size ≤ 20000 := by omega
    have hq := size5 (sItoa_size hc.1) (sItoa_size hc.2.1) (sItoa_size hc.2.2)
    rw [pzText_step0 e0 hl ha (sItoa_size hc.1) (sItoa_size hc.2.1) (sItoa_size hc.2.2) (by rw [hx]; exact l1Num_small hc.1 k hk2) (by rw [hx]; exact l1Num_small hc.2.1 k hk2) (by rw [hx]; exact l1Num_small hc.2.2 k hk2)]
    rw [ctS_eq'] at hq ⊢
    obtain ⟨ct, hct⟩ : ∃ ct, ct = cTxt x := ⟨_, rfl⟩
    rw [← hct] at hq ⊢
    have hb : ((s ++ (⟨#[102]⟩ : ByteArray)) ++ ct).size ≤ 100 + 1 * 10 := by rw [ByteArray.size_append]; omega
    rw [pzText_l0 hl hs r.length 1 k _ (Nat.le_refl 1) e1 e2 hb]
    congr 1
    apply ba_ext
    simp only [ba_app, tlB_list, List.append_assoc]
    congr 2
    unfold jTxt
    rw [List.map_cons, List.map_cons, Lib.join_cons, hct]
    rfl
theorem clue_small {fl : Int} (x : S41) (h : isClueB fl x = true) : smallCB x = true := by
  have h0 := isClue_some fl x.f0 x.f1 x.f2
  have h1 : impl_IsClue.f fl x.f0 x.f1 x.f2 = some true := by rw [h0]; exact congrArg some h
  unfold smallCB
  unfold impl_IsClue.f impl_isHiddenHouse.f impl_isEggs.f impl_isBreak.f impl_within.f at h1
  refine decide_eq_true ?_
  simp only [Option.bind_some, ge_iff_le] at h1
  repeat' split at h1
  all_goals (try (simp at h1; done))
  all_goals (simp only [Option.bind_some] at h1)
  all_goals (repeat' split at h1)
  all_goals (try (simp at h1; done))
  all_goals (simp only [Option.some.injEq, decide_eq_true_eq] at h1)
  all_goals (try omega)
  all_goals (simp only [decide_eq_true_eq] at *)
  all_goals (first | omega | (rw [Hw.wrap_id (by omega) (by omega)] at h1; omega))
theorem puz_small {fl : Int} {L : List S41} (h : impl_IsPuzzle.f fl L = some true) : smallPz fl L = true := by
  unfold impl_IsPuzzle.f at h
  have h := Option.some.inj h
  simp only [Bool.and_eq_true, decide_eq_true_eq, List.all_eq_true] at h
  unfold smallPz
  simp only [Bool.and_eq_true, decide_eq_true_eq, List.all_eq_true]
  exact ⟨⟨by omega, by omega⟩, fun x hx => clue_small x (h.2 x hx)⟩
theorem eq_PuzzleText (fl : Int) (L : List S41) (h : L.length ≤ 1000000) : ∃ r1 r2 k0, (∀ k, k0 ≤ k → spec_PuzzleText.f k fl L = some (r1, r2)) ∧ impl_PuzzleText.f fl L = some (r1, r2) := by
  obtain ⟨b, hb⟩ : ∃ b, impl_IsPuzzle.f fl L = some b := ⟨_, rfl⟩
  cases b with
  | true =>
    have hs := puz_small hb
    refine ⟨pTxt fl L, true, 1000010, fun k hk => ?_, ?_⟩
    · unfold spec_PuzzleText.f
      rw [pzGood_some fl L h k (by omega), hb, Option.bind_some, if_pos rfl, pzText_is hs k (by omega)]
      rfl
    · unfold impl_PuzzleText.f impl_puzzleText.f
      rw [hb, Option.bind_some, if_pos rfl, if_pos hs]
      rfl
  | false =>
    refine ⟨⟨#[]⟩, false, 1000010, fun k hk => ?_, ?_⟩
    · unfold spec_PuzzleText.f
      rw [pzGood_some fl L h k (by omega), hb, Option.bind_some, if_neg (by decide)]
    · unfold impl_PuzzleText.f
      rw [hb, Option.bind_some, if_neg (by decide)]

theorem walk_FnExactPuzzleText (a0_0 : Int) (A0_1 : Option Addr) (c0_1 : Nat) (l0_1 : List S46) (w : World) (hr0_1 : Kd.C k46 w A0_1 l0_1.length l0_1) (hc0_1 : l0_1.length ≤ c0_1) :
    Calls Tryd.prog 3 #[.agg #[.int .i64 a0_0, .slice A0_1 l0_1.length c0_1]] w fun e w' => e = .returned (.bool true) ∧ Below w.heap.size w w' := by
  have hm := Kd.C_max hr0_1
  by_cases h : l0_1.length ≤ 1000000
  · have hr := Hw.room_le l0_1.length
    have hF : (fullClue l0_1).length = l0_1.length + Hw.room l0_1.length := by simp [fullClue]
    obtain ⟨r1, r2, k0, h1, h2⟩ := eq_PuzzleText a0_0 (l0_1.map convClue) (by simpa using h)
    refine hand_FnExactPuzzleText (k0 + l0_1.length + Hw.room l0_1.length + 9) a0_0 A0_1 c0_1 l0_1 w hr0_1 hc0_1 (fullClue l0_1) (if l0_1.length = 0 then [] else fullClue l0_1) (l0_1.map convClue) (Hw.room l0_1.length) _ _ _ (szPuzzle_small a0_0 l0_1 h) (by omega)
      (fullClue_some l0_1 false h (.inl rfl) _ (by omega)) ?_ (by simp) ?_ (fun h0 => if_neg h0) (fun h0 => if_pos h0) (room_some _) (by rw [hF, Hw.wrap_id (by omega) (by omega)]; omega) (eqClue_self _ (by omega) _ (by omega))
      (h1 _ (by omega)) h2
    · unfold fullClue
      rw [List.take_append_of_le_length (by simp), List.take_of_length_le (by simp)]
    · by_cases h0 : l0_1.length = 0
      · obtain rfl := List.eq_nil_of_length_eq_zero h0
        rw [show (if ([] : List S46).length = 0 then ([] : List S41) else fullClue []) = [] from rfl]
        exact fullClue_nil _ (by omega)
      · rw [if_neg h0]
        exact fullClue_some l0_1 true h (.inr h0) _ (by omega)
  · exact big_FnExactPuzzleText a0_0 A0_1 c0_1 l0_1 w hr0_1 hc0_1 (-1) (szPuzzle_big a0_0 l0_1 hm (by omega)) (by omega)


end Go.Proofs.YtacokiggjjjbbaaDoor.Pure
