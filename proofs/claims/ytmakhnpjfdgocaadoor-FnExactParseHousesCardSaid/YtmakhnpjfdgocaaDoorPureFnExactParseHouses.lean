/- The law FnExactParseHouses: for every argument the call returns true. No condition beside what a machine's values are. -/
import Derived.Test.YtmakhnpjfdgocaaDoorHw
import Derived.Test.YtmakhnpjfdgocaaDoorRephtab
import Derived.Test.YtmakhnpjfdgocaaDoorRemarks
namespace Go.Proofs.YtmakhnpjfdgocaaDoor.Pure
open Go.RowKit Go.Proofs.YtmakhnpjfdgocaaDoor Go.Proofs.YtmakhnpjfdgocaaDoor.R Go.Proofs.YtmakhnpjfdgocaaDoorW.PrintWords Go.Proofs.YtmakhnpjfdgocaaDoorW.PrintLast Go.Proofs.YtmakhnpjfdgocaaDoorW.PrintMore
set_option linter.unusedVariables false
set_option linter.unusedSimpArgs false

theorem pb_ext {a b : ByteArray} (h : a.data.toList = b.data.toList) : a = b := by
  cases a; cases b
  simp only [ByteArray.mk.injEq]
  exact Array.toList_inj.1 h
theorem rdW_map : ∀ (ws : List ByteArray) (l : List Int), rdW ws = some l → ws = l.map sItoaA
  | [], l, h => by cases h; rfl
  | x :: ws, l, h => by
    rw [rdW] at h
    obtain ⟨n, h1, h2⟩ := Option.bind_eq_some_iff.1 h
    obtain ⟨r, h3, rfl⟩ := Option.map_eq_some_iff.1 h2
    rw [List.map_cons, ← rdW_map ws r h3]
    congr 1
    unfold canon at h1
    split at h1
    · split at h1
      · rename_i hh
        injection h1 with h1
        rw [← h1]
        exact hh.symm
      · cases h1
    · cases h1
theorem phV_false {s : ByteArray} (h : (phV s).2 ≠ true) : phV s = ([], false) := by
  unfold phV at h ⊢
  split at h
  · split at h
    · exact absurd rfl h
    · rename_i hh
      rw [if_neg hh]
  · rfl
def PF (s : ByteArray) (l : List Int) : Prop := (∃ a : Nat, a < 9 ∧ l = [(a : Int)] ∧ s = f1 a) ∨ (∃ a b : Nat, a < 9 ∧ b < 9 ∧ l = [(a : Int), (b : Int)] ∧ s = f2 a b) ∨ (∃ a b c : Nat, a < 9 ∧ b < 9 ∧ c < 9 ∧ l = [(a : Int), (b : Int), (c : Int)] ∧ s = f3 a b c)
theorem nat9 {x : Int} (h : inHo x = true) : ∃ a : Nat, a < 9 ∧ x = (a : Int) := by
  unfold inHo at h
  have h := Bool.and_eq_true_iff.1 h
  have h1 := of_decide_eq_true h.1
  have h2 := of_decide_eq_true h.2
  exact ⟨x.toNat, by omega, by omega⟩
theorem phV_form {s : ByteArray} {l : List Int} (h : phV s = (l, true)) : PF s l := by
  unfold phV at h
  cases hr : rdW (wrds s sl47) with
  | none => rw [hr] at h; cases h
  | some l2 =>
    rw [hr] at h
    simp only at h
    by_cases hg : (impl_AreHouses.f l2).getD false = true
    case neg => rw [if_neg hg] at h; cases h
    rw [if_pos hg] at h
    injection h with h _
    subst h
    have hm := rdW_map _ _ hr
    have hj := join_split (Lib.countB s sl47) s
    rw [show Lib.splitB sl47 0 (Lib.countB s sl47) s = wrds s sl47 from rfl, hm] at hj
    have hg2 : (decide (1 ≤ l2.length) && decide (l2.length ≤ 3) && l2.all inHo) = true := hg
    simp only [Bool.and_eq_true, decide_eq_true_eq, List.all_eq_true] at hg2
    obtain ⟨⟨g1, g2⟩, g3⟩ := hg2
    match l2, g1, g2, g3, hj with
    | [x], _, _, g3, hj =>
      obtain ⟨a, ha, rfl⟩ := nat9 (g3 x (by simp))
      refine .inl ⟨a, ha, rfl, pb_ext ?_⟩
      rw [← hj]
      simp only [List.map_cons, List.map_nil, sd a ha, Lib.join_one]
    | [x, y], _, _, g3, hj =>
      obtain ⟨a, ha, rfl⟩ := nat9 (g3 x (by simp))
      obtain ⟨b, hb, rfl⟩ := nat9 (g3 y (by simp))
      refine .inr (.inl ⟨a, b, ha, hb, rfl, pb_ext ?_⟩)
      rw [← hj]
      simp only [List.map_cons, List.map_nil, sd a ha, sd b hb, Lib.join_cons]
      simp [Lib.joinTail, f1, f2]
    | [x, y, z], _, _, g3, hj =>
      obtain ⟨a, ha, rfl⟩ := nat9 (g3 x (by simp))
      obtain ⟨b, hb, rfl⟩ := nat9 (g3 y (by simp))
      obtain ⟨c, hc, rfl⟩ := nat9 (g3 z (by simp))
      refine .inr (.inr ⟨a, b, c, ha, hb, hc, rfl, pb_ext ?_⟩)
      rw [← hj]
      simp only [List.map_cons, List.map_nil, sd a ha, sd b hb, sd c hc, Lib.join_cons]
      simp [Lib.joinTail, f1, f3]
    | [], g1, _, _, _ => exact absurd g1 (by simp)
    | _ :: _ :: _ :: _ :: _, _, g2, _, _ => exact absurd g2 (by simp)
theorem mono_ge {α : Type} {f : Nat → Option α} (hm : ∀ k, LeO (f k) (f (k + 1))) {r : α} : ∀ (d k : Nat), f k = some r → f (k + d) = some r
  | 0, k, h => h
  | d + 1, k, h => hm (k + d) r (mono_ge hm d k h)
theorem split_tot (s : ByteArray) (hs : s.size ≤ 20) : ∀ (d i k : Nat) (fr : Nat) (acc : List ByteArray), i + d = s.size → fr ≤ i → acc.length ≤ i → d < k → ∃ ws : List ByteArray, spec_l1Split.l0 k s 47 acc (fr : Int) (i : Int) = some ws ∧ ws.length ≤ 21
  | 0, i, k, fr, acc, h1, h2, h3, h4 => by
    obtain ⟨k, rfl⟩ : ∃ m, k = m + 1 := ⟨k - 1, by omega⟩
    refine ⟨acc ++ [s.extract ((fr : Int)).toNat s.size], ?_, ?_⟩
    · simp only [spec_l1Split.l0]
      exact Hw.ite_no (by omega) (Hw.ite_of (by omega) (Hw.ite_of (by omega) (Hw.ite_of (by omega) rfl)))
    · simp; omega
  | d + 1, i, k, fr, acc, h1, h2, h3, h4 => by
    obtain ⟨k, rfl⟩ : ∃ m, k = m + 1 := ⟨k - 1, by omega⟩
    have w : wrap64 ((i : Int) + 1) = ((i + 1 : Nat) : Int) := by rw [Hw.wrap_id (by omega) (by omega)]; omega
    by_cases hc : bt s (i : Int) = 47
    · obtain ⟨ws, e1, e2⟩ := split_tot s hs d (i + 1) k (i + 1) (acc ++ [s.extract (fr : Int).toNat (i : Int).toNat]) (by omega) (by omega) (by simp; omega) (by omega)
      refine ⟨ws, ?_, e2⟩
      simp only [spec_l1Split.l0]
      refine Hw.ite_of (by omega) (Hw.ite_of (by omega) (Hw.ite_of hc (Hw.ite_of (by omega) (Hw.ite_of (by omega) (Hw.ite_of (by omega) (Hw.ite_of (by omega) ?_))))))
      rw [w]
      exact e1
    · obtain ⟨ws, e1, e2⟩ := split_tot s hs d (i + 1) k fr acc (by omega) (by omega) (by omega) (by omega)
      refine ⟨ws, ?_, e2⟩
      simp only [spec_l1Split.l0]
      refine Hw.ite_of (by omega) (Hw.ite_of (by omega) (Hw.ite_no hc ?_))
      rw [w]
      exact e1
theorem read_l0 (x : ByteArray) (hs : x.size ≤ 6) : ∀ (d i k : Nat) (acc : Int), i + d = x.size → d < k → ∃ r, spec_l1Read.l0 k x acc (i : Int) = some r
  | 0, i, k, acc, h1, h2 => by
    obtain ⟨k, rfl⟩ : ∃ m, k = m + 1 := ⟨k - 1, by omega⟩
    exact ⟨acc, by simp only [spec_l1Read.l0]; exact Hw.ite_no (by omega) rfl⟩
  | d + 1, i, k, acc, h1, h2 => by
    obtain ⟨k, rfl⟩ : ∃ m, k = m + 1 := ⟨k - 1, by omega⟩
    have w : wrap64 ((i : Int) + 1) = ((i + 1 : Nat) : Int) := by rw [Hw.wrap_id (by omega) (by omega)]; omega
    simp only [spec_l1Read.l0, w]
    by_cases c1 : bt x (i : Int) < 48
    · exact ⟨-1, Hw.ite_of (by omega) (Hw.ite_of (by omega) (Hw.ite_of c1 rfl))⟩
    · by_cases c2 : bt x (i : Int) > 57
      · exact ⟨-1, Hw.ite_of (by omega) (Hw.ite_of (by omega) (Hw.ite_no c1 (Hw.ite_of c2 rfl)))⟩
      · obtain ⟨r, hr⟩ := read_l0 x hs d (i + 1) k (wrap64 ((wrap64 (10 * acc)) + (((bt x (i : Int)) - 48) % 256))) (by omega) (by omega)
        exact ⟨r, Hw.ite_of (by omega) (Hw.ite_of (by omega) (Hw.ite_no c1 (Hw.ite_no c2 hr)))⟩
theorem in_is (a b c : Int) : spec_l1In.f a b c = some (decide (b ≤ a ∧ a ≤ c)) := by
  unfold spec_l1In.f
  by_cases h : b ≤ a <;> simp [h]
theorem read_tot (x : ByteArray) (k : Nat) (hk : 10 ≤ k) : ∃ r, spec_l1Read.f k x = some r := by
  obtain ⟨k, rfl⟩ : ∃ m, k = m + 1 := ⟨k - 1, by omega⟩
  unfold spec_l1Read.f
  rw [in_is, Option.bind_some]
  have hj : ∀ b, (b = true ∨ x.size ≤ 6) → ∃ r, spec_l1Read.j0 (k + 1) x b = some r := by
    intro b hb
    simp only [spec_l1Read.j0]
    cases b with
    | true => exact ⟨-1, rfl⟩
    | false =>
      obtain ⟨r, hr⟩ := read_l0 x (by simpa using hb) x.size 0 k 0 (by omega) (by have : x.size ≤ 6 := (by simpa using hb); omega)
      exact ⟨r, by simpa using hr⟩
  by_cases h6 : 1 ≤ (x.size : Int) ∧ (x.size : Int) ≤ 6
  · rw [decide_eq_true h6, if_pos rfl, if_pos (by omega)]
    split
    · exact hj _ (.inr (by omega))
    · exact hj _ (.inr (by omega))
  · rw [decide_eq_false h6, if_neg (by decide)]
    exact hj _ (.inl rfl)
def pEnd (k : Nat) (s : ByteArray) (out : List Int) : Option (List Int × Bool) := (spec_hoGood.f k out).bind fun t127 => (if t127 = true then ((spec_hoText.f k out).bind fun t128 => (if t128.toList = s.toList then (some (out, true)) else (some (([] : List Int), false)))) else (some (([] : List Int), false)))
theorem l0_tot (s : ByteArray) (ws : List ByteArray) (hw : ws.length ≤ 21) : ∀ (d i k : Nat) (acc : List Int), i + d = ws.length → acc.length ≤ i → d + 12 ≤ k → ∃ out k1, 10 ≤ k1 ∧ spec_ParseHouses.l0 k s acc ws (ws.length : Int) (i : Int) = pEnd k1 s out
  | 0, i, k, acc, h1, h2, h3 => by
    obtain ⟨k, rfl⟩ : ∃ m, k = m + 1 := ⟨k - 1, by omega⟩
    exact ⟨acc, k, by omega, by simp only [spec_ParseHouses.l0]; exact Hw.ite_no (by omega) rfl⟩
  | d + 1, i, k, acc, h1, h2, h3 => by
    obtain ⟨k, rfl⟩ : ∃ m, k = m + 1 := ⟨k - 1, by omega⟩
    have w : wrap64 ((i : Int) + 1) = ((i + 1 : Nat) : Int) := by rw [Hw.wrap_id (by omega) (by omega)]; omega
    obtain ⟨r, hr⟩ := read_tot (rdOf ByteArray.empty ws (i : Int)) k (by omega)
    obtain ⟨out, k1, e1, e2⟩ := l0_tot s ws hw d (i + 1) k (acc ++ [r]) (by omega) (by simp; omega) (by omega)
    refine ⟨out, k1, e1, ?_⟩
    simp only [spec_ParseHouses.l0]
    refine Hw.ite_of (by omega) (Hw.ite_of (by omega) (Hw.ite_of (by omega) (Hw.bind_of hr (Hw.ite_of (by omega) ?_))))
    rw [w]
    exact e2
theorem inHo_of {x : Int} (h : 0 ≤ x ∧ x ≤ 8) : ∃ a : Nat, a < 9 ∧ x = (a : Int) := ⟨x.toNat, by omega, by omega⟩
theorem good_is (out : List Int) (k : Nat) (hk : 6 ≤ k) : (spec_hoGood.f k out = some false) ∨ (spec_hoGood.f k out = some true ∧ ((∃ a : Nat, a < 9 ∧ out = [(a : Int)]) ∨ (∃ a b : Nat, a < 9 ∧ b < 9 ∧ out = [(a : Int), (b : Int)]) ∨ (∃ a b c : Nat, a < 9 ∧ b < 9 ∧ c < 9 ∧ out = [(a : Int), (b : Int), (c : Int)]))) := by
  obtain ⟨k, rfl⟩ : ∃ m, k = m + 6 := ⟨k - 6, by omega⟩
  unfold spec_hoGood.f spec_l1All.f
  rw [in_is, Option.bind_some]
  have w1 : wrap64 1 = 1 := Hw.wrap_id (by omega) (by omega)
  have w2 : wrap64 2 = 2 := Hw.wrap_id (by omega) (by omega)
  have w3 : wrap64 3 = 3 := Hw.wrap_id (by omega) (by omega)
  match out with
  | [] => exact .inl (by simp)
  | [x] =>
    have r0 : rd [x] 0 = x := rfl
    by_cases hx : 0 ≤ x ∧ x ≤ 8
    · obtain ⟨a, ha, e⟩ := inHo_of hx
      exact .inr ⟨by simp [spec_l1All.l0, in_is, w1, r0, hx], .inl ⟨a, ha, by rw [e]⟩⟩
    · exact .inl (by simp [spec_l1All.l0, in_is, w1, r0, hx])
  | [x, y] =>
    have r0 : rd [x, y] 0 = x := rfl
    have r1 : rd [x, y] 1 = y := rfl
    by_cases hx : 0 ≤ x ∧ x ≤ 8
    · by_cases hy : 0 ≤ y ∧ y ≤ 8
      · obtain ⟨a, ha, e⟩ := inHo_of hx
        obtain ⟨b, hb, e2⟩ := inHo_of hy
        exact .inr ⟨by simp [spec_l1All.l0, in_is, w1, w2, r0, r1, hx, hy], .inr (.inl ⟨a, b, ha, hb, by rw [e, e2]⟩)⟩
      · exact .inl (by simp [spec_l1All.l0, in_is, w1, w2, r0, r1, hx, hy])
    · exact .inl (by simp [spec_l1All.l0, in_is, w1, w2, r0, r1, hx])
  | [x, y, z] =>
    have r0 : rd [x, y, z] 0 = x := rfl
    have r1 : rd [x, y, z] 1 = y := rfl
    have r2 : rd [x, y, z] 2 = z := rfl
    by_cases hx : 0 ≤ x ∧ x ≤ 8
    · by_cases hy : 0 ≤ y ∧ y ≤ 8
      · by_cases hz : 0 ≤ z ∧ z ≤ 8
        · obtain ⟨a, ha, e⟩ := inHo_of hx
          obtain ⟨b, hb, e2⟩ := inHo_of hy
          obtain ⟨c, hc, e3⟩ := inHo_of hz
          exact .inr ⟨by simp [spec_l1All.l0, in_is, w1, w2, w3, r0, r1, r2, hx, hy, hz], .inr (.inr ⟨a, b, c, ha, hb, hc, by rw [e, e2, e3]⟩)⟩
        · exact .inl (by simp [spec_l1All.l0, in_is, w1, w2, w3, r0, r1, r2, hx, hy, hz])
      · exact .inl (by simp [spec_l1All.l0, in_is, w1, w2, r0, r1, r2, hx, hy])
    · exact .inl (by simp [spec_l1All.l0, in_is, w1, r0, r1, r2, hx])
  | _ :: _ :: _ :: _ :: r => exact .inl (by rw [decide_eq_false (by simp; omega), if_neg (by decide)])
theorem list_ext {a b : ByteArray} (h : a.toList = b.toList) : a = b := by
  rw [ByteArray.toList_eq, ByteArray.toList_eq] at h
  exact pb_ext h
theorem pEnd_is (s : ByteArray) (out : List Int) (k : Nat) (hk : 10 ≤ k) (h : phV s = ([], false)) : pEnd k s out = some ([], false) := by
  unfold pEnd
  obtain ⟨d, rfl⟩ : ∃ d, k = 10 + d := ⟨k - 10, by omega⟩
  rcases good_is out (10 + d) (by omega) with hg | ⟨hg, hf⟩
  · rw [hg]; rfl
  · rw [hg, Option.bind_some, if_pos rfl]
    have key : ∀ t, spec_hoText.f 10 out = some t → phV t = (out, true) → ((spec_hoText.f (10 + d) out).bind fun t128 => (if t128.toList = s.toList then (some (out, true)) else (some (([] : List Int), false)))) = some ([], false) := by
      intro t h1 h2
      rw [mono_ge (f := fun k => spec_hoText.f k out) (fun k => spec_hoText.mono out k) d 10 h1, Option.bind_some, if_neg]
      intro hh
      rw [list_ext hh, h] at h2
      cases h2
    rcases hf with ⟨a, ha, rfl⟩ | ⟨a, b, ha, hb, rfl⟩ | ⟨a, b, c, ha, hb, hc, rfl⟩
    · exact key _ (ht1 a ha) (it1 a ha)
    · exact key _ (ht2 a ha b hb) (it2 a ha b hb)
    · exact key _ (ht3 a b c ha hb hc) (it3 a b c ha hb hc)
theorem spec_is (s : ByteArray) : spec_ParseHouses.f 60 s = some (phV s) := by
  by_cases ht : (phV s).2 = true
  · have hp : phV s = ((phV s).1, true) := by rw [← ht]
    rcases phV_form hp with ⟨a, ha, hl, hs⟩ | ⟨a, b, ha, hb, hl, hs⟩ | ⟨a, b, c, ha, hb, hc, hl, hs⟩
    · rw [hp, hl, hs, st1 a ha]
    · rw [hp, hl, hs, st2 a ha b hb]
    · rw [hp, hl, hs, st3 a b c ha hb hc]
  · have hp := phV_false ht
    rw [hp]
    unfold spec_ParseHouses.f
    by_cases hz : (s.size : Int) > 20
    · rw [if_pos hz]
    · rw [if_neg hz]
      obtain ⟨ws, e1, e2⟩ := split_tot s (by omega) s.size 0 60 0 [] (by omega) (Nat.le_refl _) (Nat.le_refl _) (by omega)
      refine Hw.bind_of e1 ?_
      obtain ⟨out, k1, e3, e4⟩ := l0_tot s ws e2 ws.length 0 60 [] (by omega) (Nat.le_refl _) (by omega)
      exact e4.trans (pEnd_is s out k1 e3 hp)

theorem FnExactParseHouses : laws_FnExactParseHouses.Pure := by
  intro a0 _
  by_cases hs : a0.size ≤ 1000000
  case neg =>
    refine ⟨0, ?_⟩
    unfold laws_FnExactParseHouses.f
    rw [if_pos (by omega)]
  have hS := mono_ge (f := fun k => spec_ParseHouses.f k a0) (fun k => spec_ParseHouses.mono a0 k) 2 60 (spec_is a0)
  have hI : impl_ParseHouses.f a0 = some (phV a0) := by
    unfold impl_ParseHouses.f
    rw [if_pos hs]
  obtain ⟨L, b, hL, hl⟩ : ∃ L b, phV a0 = (L, b) ∧ L.length ≤ 3 := by
    by_cases ht : (phV a0).2 = true
    · have hp : phV a0 = ((phV a0).1, true) := by rw [← ht]
      refine ⟨(phV a0).1, true, hp, ?_⟩
      rcases phV_form hp with ⟨a, _, h, _⟩ | ⟨a, b, _, _, h, _⟩ | ⟨a, b, c, _, _, _, h, _⟩ <;> rw [h] <;> simp
    · exact ⟨_, _, phV_false ht, Nat.zero_le _⟩
  rw [hL] at hS hI
  refine ⟨60 + 1 + 1, ?_⟩
  have hS : spec_ParseHouses.f (60 + 1 + 1) a0 = some (L, b) := hS
  unfold laws_FnExactParseHouses.f
  rw [if_neg (by omega), hS, Option.bind_some, hI, Option.bind_some, eqInt_self L (by omega) _ (by omega), Option.bind_some, if_pos rfl]
  simp only [bne_self_eq_false]
  rw [laws_FnExactParseHouses.j0, if_neg (by decide), markInt_some L (by omega) _ (by omega), Option.bind_some, heldInt_some _ (by omega) _ (by omega), Option.bind_some, if_neg (by omega), if_pos rfl, hI, Option.bind_some, eqInt_self L (by omega) _ (by omega), Option.bind_some, if_pos rfl]
  simp only [bne_self_eq_false]
  rw [laws_FnExactParseHouses.j1, if_neg (by decide), heldInt_some _ (by omega) _ (by omega), Option.bind_some, if_neg (by omega), if_pos rfl]

end Go.Proofs.YtmakhnpjfdgocaaDoor.Pure
