/- The law FnExactParsePuzzle: for every argument the call returns true. No condition beside what a machine's values are. -/
import Derived.Test.YtmakhnpjfdgocaaDoorHw
import Derived.Test.YtmakhnpjfdgocaaDoorSh
import Derived.Test.YtmakhnpjfdgocaaDoorPel1
import Derived.Test.YtmakhnpjfdgocaaDoorPeclue
import Derived.Test.YtmakhnpjfdgocaaDoorPegood
import Derived.Test.YtmakhnpjfdgocaaDoorPemarksCp
import Derived.Test.YtmakhnpjfdgocaaDoorPeheldCp
namespace Go.Proofs.YtmakhnpjfdgocaaDoor.Pure
open Go.RowKit Go.Proofs.YtmakhnpjfdgocaaDoor Go.Proofs.YtmakhnpjfdgocaaDoor.P Go.Proofs.YtmakhnpjfdgocaaDoorW.PrintWords Go.Proofs.YtmakhnpjfdgocaaDoorW.PrintLast Go.Proofs.YtmakhnpjfdgocaaDoorW.PrintMore
set_option linter.unusedVariables false
set_option linter.unusedSimpArgs false

/-! ### Joined words are split again -/
theorem idx_app (c : UInt8) : ∀ (a r : List UInt8), c ∉ a → Lib.indexByte (a ++ c :: r) c = (a.length : Int)
  | [], r, _ => by simp [Lib.indexByte]
  | x :: a, r, h => by
    have hx : (x == c) = false := by simp; intro hh; exact h (by simp [hh])
    have ih := idx_app c a r (fun hh => h (List.mem_cons_of_mem _ hh))
    rw [List.cons_append, Lib.indexByte, hx, ih]
    simp only [Bool.false_eq_true, if_false, List.length_cons]
    rw [if_neg (by simp)]
    omega
theorem idx_no (c : UInt8) : ∀ (a : List UInt8), c ∉ a → Lib.indexByte a c = -1
  | [], _ => rfl
  | x :: a, h => by
    have hx : (x == c) = false := by simp; intro hh; exact h (by simp [hh])
    have ih := idx_no c a (fun hh => h (List.mem_cons_of_mem _ hh))
    rw [Lib.indexByte, hx, ih]
    simp
def joinL (c : UInt8) : List (List UInt8) → List UInt8
  | [] => []
  | [w] => w
  | w :: r => w ++ c :: joinL c r
theorem joinL_eq (c : UInt8) : ∀ ws : List (List UInt8), Lib.join ws [c] = joinL c ws
  | [] => rfl
  | [w] => by rw [Lib.join_one]; rfl
  | w :: v :: r => by
    have ih := joinL_eq c (v :: r)
    rw [Lib.join_cons] at ih ⊢
    rw [joinL, ← ih]
    · simp [Lib.joinTail]
    · intro h
      cases h
theorem split_join (c : UInt8) : ∀ (ws : List (List UInt8)) (k : Nat) (s : ByteArray), ws ≠ [] → (∀ w ∈ ws, c ∉ w) → s.data.toList = joinL c ws → ws.length ≤ k + 1 → (Lib.splitB ⟨#[c]⟩ 0 k s).map (·.data.toList) = ws
  | [], _, _, h, _, _, _ => absurd rfl h
  | [w], k, s, _, hc, hs, _ => by
    have hi : Lib.indexB s ⟨#[c]⟩ = -1 := by
      show Lib.index s.data.toList [c] = -1
      rw [Lib.index_one, hs]
      exact idx_no c w (hc w (by simp))
    rw [Lib.splitB_miss _ _ _ _ hi, List.map_cons, List.map_nil, hs]
    rfl
  | w :: v :: r, 0, s, _, _, _, hk => by simp at hk
  | w :: v :: r, k + 1, s, _, hc, hs, hk => by
    have hs2 : s.data.toList = w ++ c :: joinL c (v :: r) := hs
    have hi : Lib.indexB s ⟨#[c]⟩ = (w.length : Int) := by
      show Lib.index s.data.toList [c] = _
      rw [Lib.index_one, hs2]
      exact idx_app c w _ (hc w (by simp))
    rw [Lib.splitB_hit _ _ _ _ _ hi, List.map_cons, Lib.extract_from_zero]
    have hd : (s.extract (w.length + (⟨#[c]⟩ : ByteArray).size) s.size).data.toList = joinL c (v :: r) := by
      rw [Lib.extract_to_end, hs2]
      show (w ++ c :: joinL c (v :: r)).drop (w.length + 1) = _
      rw [List.drop_append]
      simp
    have ih := split_join c (v :: r) k _ (by simp) (fun x hx => hc x (List.mem_cons_of_mem _ hx)) hd (by simp at hk ⊢; omega)
    rw [ih, hs2]
    simp
theorem count_join (c : UInt8) : ∀ (ws : List (List UInt8)) (s : ByteArray), (∀ w ∈ ws, c ∉ w) → s.data.toList = joinL c ws → ws.length ≤ Lib.countB s ⟨#[c]⟩ + 1
  | [], _, _, _ => Nat.zero_le _
  | [w], _, _, _ => by simp
  | w :: v :: r, s, hc, hs => by
    have hs2 : s.data.toList = w ++ c :: joinL c (v :: r) := hs
    have hi : Lib.indexB s ⟨#[c]⟩ = (w.length : Int) := by
      show Lib.index s.data.toList [c] = _
      rw [Lib.index_one, hs2]
      exact idx_app c w _ (hc w (by simp))
    rw [Lib.countB_hit s ⟨#[c]⟩ w.length (Nat.le_refl 1) hi]
    have hd : (s.extract (w.length + (⟨#[c]⟩ : ByteArray).size) s.size).data.toList = joinL c (v :: r) := by
      rw [Lib.extract_to_end, hs2]
      show (w ++ c :: joinL c (v :: r)).drop (w.length + 1) = _
      rw [List.drop_append]
      simp
    have ih := count_join c (v :: r) _ (fun x hx => hc x (List.mem_cons_of_mem _ hx)) hd
    rw [List.length_cons]
    omega
theorem ba_map {l : List ByteArray} {m : List ByteArray} (h : l.map (·.data.toList) = m.map (·.data.toList)) : l = m := by
  refine List.map_inj_right (f := fun x : ByteArray => x.data.toList) ?_ |>.1 h
  intro a b hab
  cases a; cases b
  simp only [ByteArray.mk.injEq]
  exact Array.toList_inj.1 hab
theorem dg_all : ∀ n : Nat, n < 100 → ((Lib.decDigits n).all fun b => decide (48 ≤ b.toNat ∧ b.toNat ≤ 57)) = true := by decide +kernel
theorem dg_atoi : ∀ n : Nat, n < 100 → Lib.atoiAll (Lib.decDigits n) = .ok (n : Int) := by decide +kernel
theorem dg_no {n : Nat} (h : n < 100) {c : UInt8} (hc : ¬ (48 ≤ c.toNat ∧ c.toNat ≤ 57)) : c ∉ Lib.decDigits n := by
  intro hm
  exact hc (of_decide_eq_true (List.all_eq_true.1 (dg_all n h) c hm))
theorem canon_dg {a : Int} (h : 0 ≤ a ∧ a < 100) : canon (sItoa a) = some a := by
  obtain ⟨n, rfl⟩ : ∃ n : Nat, a = n := ⟨a.toNat, by omega⟩
  unfold canon sItoa
  rw [Int.toNat_natCast]
  have h2 : Lib.atoiAll (⟨(Lib.decDigits n).toArray⟩ : ByteArray).data.toList = .ok (n : Int) := dg_atoi n (by omega)
  rw [h2]
  have h3 : sItoaA (n : Int) = ⟨(Lib.decDigits n).toArray⟩ := by
    unfold sItoaA Lib.itoa
    rw [if_neg (by omega), Int.toNat_natCast]
  simp only
  rw [if_pos h3]
theorem wrds_cTxt {x : S49} (h : smallCB x = true) : rdW (wrds (cTxt x) dot46) = some [x.f0, x.f1, x.f2] := by
  have hc := of_decide_eq_true h
  have hno : ∀ a : Int, 0 ≤ a ∧ a < 100 → (46 : UInt8) ∉ (sItoa a).data.toList := fun a ha => dg_no (n := a.toNat) (by omega) (by decide)
  have hs : (cTxt x).data.toList = joinL 46 [(sItoa x.f0).data.toList, (sItoa x.f1).data.toList, (sItoa x.f2).data.toList] := by
    rw [← joinL_eq]
    rfl
  have hw : ∀ w ∈ [(sItoa x.f0).data.toList, (sItoa x.f1).data.toList, (sItoa x.f2).data.toList], (46 : UInt8) ∉ w := by
    intro w hw
    simp only [List.mem_cons, List.not_mem_nil, or_false] at hw
    rcases hw with rfl | rfl | rfl
    · exact hno _ hc.1
    · exact hno _ hc.2.1
    · exact hno _ hc.2.2
  have h1 := split_join 46 _ (Lib.countB (cTxt x) dot46) (cTxt x) (by simp) hw hs (count_join 46 _ _ hw hs)
  have h2 : wrds (cTxt x) dot46 = [sItoa x.f0, sItoa x.f1, sItoa x.f2] := ba_map h1
  rw [h2]
  simp only [rdW, canon_dg hc.1, canon_dg hc.2.1, canon_dg hc.2.2, Option.bind_some, Option.map_some]
theorem cut_app (a r : List UInt8) (h : (102 : UInt8) ∉ a) : Lib.cut (a ++ 102 :: r) [102] = (a, r, true) := by
  unfold Lib.cut
  rw [Lib.index_one, idx_app 102 a r h, if_pos (by omega)]
  simp
theorem nTxt_no (l : List Int) (hl : ∀ x ∈ l, 0 ≤ x ∧ x < 100) {c : UInt8} (hc : ¬ (48 ≤ c.toNat ∧ c.toNat ≤ 57)) (hd : c ≠ 46) : c ∉ (nTxt l ⟨#[46]⟩).data.toList := by
  have h1 : ∀ l : List Int, (∀ x ∈ l, 0 ≤ x ∧ x < 100) → c ∉ joinL 46 ((l.map sItoa).map (·.data.toList)) := by
    intro l
    induction l with
    | nil => intro _ h; simp [joinL] at h
    | cons x l ih =>
      intro hl h
      have hx : c ∉ (sItoa x).data.toList := dg_no (n := x.toNat) (by have := hl x (by simp); omega) hc
      cases l with
      | nil => exact hx (by simpa [joinL] using h)
      | cons y l =>
        rw [List.map_cons, List.map_cons, List.map_cons, List.map_cons, joinL] at h
        · rcases List.mem_append.1 h with h | h
          · exact hx h
          · rcases List.mem_cons.1 h with h | h
            · exact hd h
            · exact ih (fun z hz => hl z (List.mem_cons_of_mem _ hz)) (by simpa using h)
        · intro hh
          cases hh
  show c ∉ Lib.join ((l.map sItoa).map (·.data.toList)) [46]
  rw [joinL_eq]
  exact h1 l hl
theorem cTxt_no {x : S49} (h : smallCB x = true) {c : UInt8} (hc : ¬ (48 ≤ c.toNat ∧ c.toNat ≤ 57)) (hd : c ≠ 46) : c ∉ (cTxt x).data.toList := by
  have hs := of_decide_eq_true h
  refine nTxt_no _ (fun y hy => ?_) hc hd
  simp only [List.mem_cons, List.not_mem_nil, or_false] at hy
  rcases hy with rfl | rfl | rfl
  · exact hs.1
  · exact hs.2.1
  · exact hs.2.2
theorem joinL_ne (c : UInt8) : ∀ ws : List (List UInt8), ws ≠ [] → (∀ w ∈ ws, w ≠ []) → joinL c ws ≠ []
  | [], h, _ => absurd rfl h
  | [w], _, h => h w (by simp)
  | w :: v :: r, _, _ => by simp [joinL]
theorem cTxt_list (x : S49) : (cTxt x).data.toList = joinL 46 [(sItoa x.f0).data.toList, (sItoa x.f1).data.toList, (sItoa x.f2).data.toList] := by
  rw [← joinL_eq]
  rfl
theorem cTxt_ne (x : S49) : (cTxt x).data.toList ≠ [] := by
  rw [cTxt_list]
  simp [joinL]
theorem rdC_map : ∀ l : List S49, l.all smallCB = true → rdC (l.map cTxt) = some l
  | [], _ => rfl
  | x :: l, h => by
    have h1 := Bool.and_eq_true_iff.1 (show (smallCB x && l.all smallCB) = true from h)
    rw [List.map_cons, rdC, wrds_cTxt h1.1]
    simp only
    rw [rdC_map l h1.2]
    rfl
theorem ppWords_jTxt {l : List S49} (hl : l.length ≤ 6) (h : l.all smallCB = true) : ppWords (jTxt l) = l.map cTxt := by
  by_cases h0 : l = []
  · subst h0
    unfold ppWords
    rw [if_pos (by rfl)]
    rfl
  · have hs : (jTxt l).data.toList = joinL 44 ((l.map cTxt).map (·.data.toList)) := by rw [← joinL_eq]; rfl
    have hw : ∀ w ∈ (l.map cTxt).map (·.data.toList), (44 : UInt8) ∉ w := by
      intro w hw
      simp only [List.map_map, List.mem_map, Function.comp_def] at hw
      obtain ⟨x, hx, rfl⟩ := hw
      exact cTxt_no (List.all_eq_true.1 h x hx) (by decide) (by decide)
    have hcj := count_join 44 _ _ hw hs
    have hcl := Lib.countB_le com44 (Nat.le_refl 1) (jTxt l).size (jTxt l) (Nat.le_refl _)
    rw [List.length_map, List.length_map] at hcj
    have hcl2 : Lib.countB (jTxt l) ⟨#[44]⟩ ≤ (jTxt l).size := hcl
    have hne : (jTxt l).size ≠ 0 := by
      intro hz
      have hz2 : (jTxt l).data.toList = [] := List.eq_nil_of_length_eq_zero hz
      rw [hs] at hz2
      exact joinL_ne 44 _ (by simpa using h0) (fun w hw => by
        simp only [List.map_map, List.mem_map, Function.comp_def] at hw
        obtain ⟨x, hx, rfl⟩ := hw
        exact cTxt_ne x) hz2
    unfold ppWords
    rw [if_neg hne]
    exact ba_map (split_join 44 _ _ _ (by simp [h0]) hw hs (by rw [List.length_map, List.length_map]; omega))
theorem ppRead_pTxt {fl : Int} {l : List S49} (hf : 0 ≤ fl ∧ fl < 100) (hl : l.length ≤ 6) (h : l.all smallCB = true) : ppRead (pTxt fl l) = some (fl, l) := by
  have hs : (pTxt fl l).data.toList = (sItoa fl).data.toList ++ 102 :: (jTxt l).data.toList := by
    unfold pTxt
    rw [ByteArray.data_append, ByteArray.data_append, Array.toList_append, Array.toList_append, List.append_assoc]
    rfl
  have hc := cut_app (sItoa fl).data.toList (jTxt l).data.toList (dg_no (n := fl.toNat) (by omega) (by decide))
  rw [← hs] at hc
  have hh : ppHead (pTxt fl l) = sItoa fl := by unfold ppHead; rw [hc]
  have hr : ppRest (pTxt fl l) = jTxt l := by unfold ppRest; rw [hc]
  unfold ppRead
  rw [hc, hh, hr, if_pos rfl]
  have ha : Lib.atoiAll (sItoa fl).data.toList = .ok fl := by
    have := dg_atoi fl.toNat (by omega)
    rw [Int.toNat_of_nonneg hf.1] at this
    exact this
  rw [ha]
  simp only
  rw [ppWords_jTxt hl h, rdC_map l h]
  rfl
/-! ### The reference's splitting and reading -/
theorem pb_ext {a b : ByteArray} (h : a.data.toList = b.data.toList) : a = b := by
  cases a; cases b
  simp only [ByteArray.mk.injEq]
  exact Array.toList_inj.1 h
theorem mono_ge {α : Type} {f : Nat → Option α} (hm : ∀ k, LeO (f k) (f (k + 1))) {r : α} : ∀ (d k : Nat), f k = some r → f (k + d) = some r
  | 0, k, h => h
  | d + 1, k, h => hm (k + d) r (mono_ge hm d k h)
theorem list_ext {a b : ByteArray} (h : a.toList = b.toList) : a = b := by
  rw [ByteArray.toList_eq, ByteArray.toList_eq] at h
  exact pb_ext h
theorem spl_tot (s : ByteArray) (c : Int) (hs : s.size ≤ 1000000) : ∀ (d i k : Nat) (fr : Nat) (acc : List ByteArray), i + d = s.size → fr ≤ i → acc.length ≤ i → d < k → (∀ w ∈ acc, w.size ≤ s.size) → ∃ ws : List ByteArray, spec_l1Split.l0 k s c acc (fr : Int) (i : Int) = some ws ∧ ws.length ≤ s.size + 1 ∧ ∀ w ∈ ws, w.size ≤ s.size
  | 0, i, k, fr, acc, h1, h2, h3, h4, h5 => by
    obtain ⟨k, rfl⟩ : ∃ m, k = m + 1 := ⟨k - 1, by omega⟩
    refine ⟨acc ++ [s.extract ((fr : Int)).toNat s.size], ?_, ?_, ?_⟩
    · simp only [spec_l1Split.l0]
      exact Hw.ite_no (by omega) (Hw.ite_of (by omega) (Hw.ite_of (by omega) (Hw.ite_of (by omega) rfl)))
    · simp; omega
    · intro w hw
      rcases List.mem_append.1 hw with hw | hw
      · exact h5 w hw
      · rw [List.mem_singleton.1 hw, ByteArray.size_extract]; omega
  | d + 1, i, k, fr, acc, h1, h2, h3, h4, h5 => by
    obtain ⟨k, rfl⟩ : ∃ m, k = m + 1 := ⟨k - 1, by omega⟩
    have w : wrap64 ((i : Int) + 1) = ((i + 1 : Nat) : Int) := by rw [Hw.wrap_id (by omega) (by omega)]; omega
    by_cases hc : bt s (i : Int) = c
    · obtain ⟨ws, e1, e2⟩ := spl_tot s c hs d (i + 1) k (i + 1) (acc ++ [s.extract (fr : Int).toNat (i : Int).toNat]) (by omega) (by omega) (by simp; omega) (by omega) (fun w hw => by
        rcases List.mem_append.1 hw with hw | hw
        · exact h5 w hw
        · rw [List.mem_singleton.1 hw, ByteArray.size_extract]; omega)
      refine ⟨ws, ?_, e2⟩
      simp only [spec_l1Split.l0]
      refine Hw.ite_of (by omega) (Hw.ite_of (by omega) (Hw.ite_of hc (Hw.ite_of (by omega) (Hw.ite_of (by omega) (Hw.ite_of (by omega) (Hw.ite_of (by omega) ?_))))))
      rw [w]
      exact e1
    · obtain ⟨ws, e1, e2⟩ := spl_tot s c hs d (i + 1) k fr acc (by omega) (by omega) (by omega) (by omega) h5
      refine ⟨ws, ?_, e2⟩
      simp only [spec_l1Split.l0]
      refine Hw.ite_of (by omega) (Hw.ite_of (by omega) (Hw.ite_no hc ?_))
      rw [w]
      exact e1
theorem split_tot (s : ByteArray) (c : Int) (hs : s.size ≤ 1000000) (k : Nat) (hk : s.size < k) : ∃ ws : List ByteArray, spec_l1Split.f k s c = some ws ∧ ws.length ≤ s.size + 1 ∧ ∀ w ∈ ws, w.size ≤ s.size := by
  have h := spl_tot s c hs s.size 0 k 0 [] (by omega) (Nat.le_refl _) (Nat.le_refl _) hk (fun w hw => by cases hw)
  simpa [spec_l1Split.f] using h
theorem bt_some {s : ByteArray} {j : Nat} {x : UInt8} (h : s.data.toList[j]? = some x) : bt s (j : Int) = ((x.toNat : Nat) : Int) := by
  obtain ⟨h1, h2⟩ := List.getElem?_eq_some_iff.1 h
  unfold bt
  rw [dif_pos (show (j : Int).toNat < s.size from h1), ← h2]
  rfl
theorem spl_skip (s : ByteArray) (c : Int) (hs : s.size ≤ 1000000) : ∀ (d i k : Nat) (fr : Int) (acc : List ByteArray), i + d ≤ s.size → (∀ j, i ≤ j → j < i + d → bt s ((j : Nat) : Int) ≠ c) → spec_l1Split.l0 (k + d) s c acc fr (i : Int) = spec_l1Split.l0 k s c acc fr ((i + d : Nat) : Int)
  | 0, i, k, fr, acc, _, _ => rfl
  | d + 1, i, k, fr, acc, h1, h2 => by
    have w : wrap64 ((i : Int) + 1) = ((i + 1 : Nat) : Int) := by rw [Hw.wrap_id (by omega) (by omega)]; omega
    have ih := spl_skip s c hs d (i + 1) k fr acc (by omega) (fun j a b => h2 j (by omega) (by omega))
    rw [show i + 1 + d = i + (d + 1) by omega] at ih
    rw [← ih, show k + (d + 1) = (k + d) + 1 by omega]
    simp only [spec_l1Split.l0]
    refine Hw.ite_of (by omega) (Hw.ite_of (by omega) (Hw.ite_no (h2 i (Nat.le_refl _) (by omega)) ?_))
    rw [w]
theorem bt_word {s : ByteArray} {fr : Nat} {w r : List UInt8} {c : UInt8} (h : s.data.toList.drop fr = w ++ r) (hc : c ∉ w) : ∀ j, fr ≤ j → j < fr + w.length → bt s ((j : Nat) : Int) ≠ ((c.toNat : Nat) : Int) := by
  intro j h1 h2
  have h3 : s.data.toList[j]? = some (w[j - fr]'(by omega)) := by
    have h4 : (s.data.toList.drop fr)[j - fr]? = some (w[j - fr]'(by omega)) := by
      rw [h, List.getElem?_append_left (by omega), List.getElem?_eq_getElem (by omega)]
    rw [List.getElem?_drop, show fr + (j - fr) = j by omega] at h4
    exact h4
  rw [bt_some h3]
  intro hh
  have h5 : (w[j - fr]'(by omega)).toNat = c.toNat := by omega
  exact hc (UInt8.toNat_inj.1 h5 ▸ List.getElem_mem _)
theorem spl_join (s : ByteArray) (c : UInt8) (hs : s.size ≤ 1000000) : ∀ (ws : List (List UInt8)) (fr k : Nat) (acc : List ByteArray), ws ≠ [] → (∀ w ∈ ws, c ∉ w) → fr ≤ s.size → s.data.toList.drop fr = joinL c ws → acc.length ≤ fr → s.size < fr + k → spec_l1Split.l0 k s ((c.toNat : Nat) : Int) acc (fr : Int) (fr : Int) = some (acc ++ ws.map fun w => (⟨w.toArray⟩ : ByteArray))
  | [], _, _, _, h, _, _, _, _, _ => absurd rfl h
  | [w], fr, k, acc, _, hc, h1, h2, h3, h4 => by
    have h2 : s.data.toList.drop fr = w := h2
    have hl : s.size = fr + w.length := by
      have := congrArg List.length h2
      rw [List.length_drop] at this
      have h5 : s.data.toList.length = s.size := rfl
      omega
    obtain ⟨k, rfl⟩ : ∃ m, k = m + 1 + w.length := ⟨k - 1 - w.length, by omega⟩
    rw [spl_skip s _ hs w.length fr (k + 1) _ acc (by omega) (bt_word (r := []) (by simpa using h2) (hc w (by simp)))]
    simp only [spec_l1Split.l0]
    refine Hw.ite_no (by omega) (Hw.ite_of (by omega) (Hw.ite_of (by omega) (Hw.ite_of (by omega) ?_)))
    rw [List.map_cons, List.map_nil]
    congr 3
    apply pb_ext
    rw [show ((fr : Int)).toNat = fr from rfl, Lib.extract_to_end, h2]
  | w :: v :: r, fr, k, acc, _, hc, h1, h2, h3, h4 => by
    have h2 : s.data.toList.drop fr = w ++ c :: joinL c (v :: r) := h2
    have hl : s.size = fr + w.length + 1 + (joinL c (v :: r)).length := by
      have := congrArg List.length h2
      rw [List.length_drop, List.length_append, List.length_cons] at this
      have h5 : s.data.toList.length = s.size := rfl
      omega
    obtain ⟨k, rfl⟩ : ∃ m, k = m + 1 + w.length := ⟨k - 1 - w.length, by omega⟩
    rw [spl_skip s _ hs w.length fr (k + 1) _ acc (by omega) (bt_word h2 (hc w (by simp)))]
    have hx : s.data.toList[fr + w.length]? = some c := by
      rw [← List.getElem?_drop, h2]
      simp
    have w1 : wrap64 (((fr + w.length : Nat) : Int) + 1) = ((fr + w.length + 1 : Nat) : Int) := by rw [Hw.wrap_id (by omega) (by omega)]; omega
    simp only [spec_l1Split.l0]
    refine Hw.ite_of (by omega) (Hw.ite_of (by omega) (Hw.ite_of (bt_some hx) (Hw.ite_of (by omega) (Hw.ite_of (by omega) (Hw.ite_of (by omega) (Hw.ite_of (by omega) ?_))))))
    have hd : s.data.toList.drop (fr + w.length + 1) = joinL c (v :: r) := by
      rw [show fr + w.length + 1 = fr + (w.length + 1) by omega, ← List.drop_drop, h2, List.drop_append]
      simp
    rw [w1, spl_join s c hs (v :: r) (fr + w.length + 1) k _ (by simp) (fun x hx => hc x (List.mem_cons_of_mem _ hx)) (by omega) hd (by simp; omega) (by omega)]
    have he : s.extract ((fr : Int)).toNat (((fr + w.length : Nat) : Int)).toNat = (⟨w.toArray⟩ : ByteArray) := by
      apply pb_ext
      rw [show ((fr : Int)).toNat = fr from rfl, show (((fr + w.length : Nat) : Int)).toNat = fr + w.length from rfl]
      show (s.extract fr (fr + w.length)).data.toList = w
      rw [ByteArray.data_extract, Array.toList_extract, List.extract_eq_take_drop, h2, Nat.add_sub_cancel_left, List.take_left]
    rw [he]
    simp
theorem split_is (s : ByteArray) (c : UInt8) (hs : s.size ≤ 1000000) (ws : List (List UInt8)) (h0 : ws ≠ []) (hc : ∀ w ∈ ws, c ∉ w) (h : s.data.toList = joinL c ws) (k : Nat) (hk : s.size < k) (ci : Int) (hci : ci = ((c.toNat : Nat) : Int)) : spec_l1Split.f k s ci = some (ws.map fun w => (⟨w.toArray⟩ : ByteArray)) := by
  subst hci
  have := spl_join s c hs ws 0 k [] h0 hc (Nat.zero_le _) h (Nat.le_refl _) (by omega)
  simpa [spec_l1Split.f] using this
theorem dg_read : ∀ n : Nat, n < 100 → spec_l1Read.f 10 ⟨(Lib.decDigits n).toArray⟩ = some (n : Int) := by decide +kernel
theorem read_is {a : Int} (h : 0 ≤ a ∧ a < 100) (k : Nat) (hk : 10 ≤ k) : spec_l1Read.f k (sItoa a) = some a := by
  obtain ⟨n, rfl⟩ : ∃ n : Nat, a = n := ⟨a.toNat, by omega⟩
  obtain ⟨d, rfl⟩ : ∃ d, k = 10 + d := ⟨k - 10, by omega⟩
  exact mono_ge (f := fun k => spec_l1Read.f k (sItoa (n : Int))) (fun k => spec_l1Read.mono _ k) d 10 (dg_read n (by omega))
/-! ### The reference's text of a puzzle -/
theorem ba_ext {a b : ByteArray} (h : a.data.toList = b.data.toList) : a = b := by
  cases a; cases b
  simp only [ByteArray.mk.injEq]
  exact Array.toList_inj.1 h
theorem ba_app (a b : ByteArray) : (a ++ b).data.toList = a.data.toList ++ b.data.toList := by
  rw [ByteArray.data_append, Array.toList_append]
theorem dig1 {n : Nat} (h : n < 10) : Lib.decDigits n = [UInt8.ofNat (48 + n)] := by rw [Lib.decDigits, dif_pos h]
theorem dig2 {n : Nat} (h : ¬ n < 10) (h2 : n < 100) : Lib.decDigits n = [UInt8.ofNat (48 + n / 10), UInt8.ofNat (48 + n % 10)] := by
  rw [Lib.decDigits, dif_neg h, dig1 (by omega)]
  rfl
theorem str1 (x : Int) (n : Nat) (h : x = (n : Int)) : strOfNums [x] = ⟨#[UInt8.ofNat n]⟩ := by
  subst h
  rfl
theorem l1Num_small {a : Int} (h : 0 ≤ a ∧ a < 100) (k : Nat) (hk : 2 ≤ k) : spec_l1Num.f k a = some (sItoa a) := by
  obtain ⟨k, rfl⟩ : ∃ m, k = m + 2 := ⟨k - 2, by omega⟩
  obtain ⟨n, rfl⟩ : ∃ n : Nat, a = n := ⟨a.toNat, by omega⟩
  unfold sItoa
  rw [Int.toNat_natCast]
  rw [spec_l1Num.f]
  by_cases h1 : n < 10
  · rw [if_pos (by omega), dig1 h1, Hw.wrap_id (by omega) (by omega), str1 _ (48 + n) (by omega)]
  · rw [if_neg (by omega), dig2 h1 (by omega), spec_l1Num.f]
    have e1 : wrap64 (Int.tdiv (n : Int) 10) = ((n / 10 : Nat) : Int) := by rw [Int.tdiv_eq_ediv_of_nonneg (by omega), Hw.wrap_id (by omega) (by omega)]; omega
    have e2 : Int.tmod (n : Int) 10 = ((n % 10 : Nat) : Int) := by rw [Int.tmod_eq_emod_of_nonneg (by omega)]; omega
    rw [e1, e2, if_pos (by omega), Option.bind_some, Option.bind_some, Hw.wrap_id (i := 48 + ((n / 10 : Nat) : Int)) (by omega) (by omega), Hw.wrap_id (i := 48 + ((n % 10 : Nat) : Int)) (by omega) (by omega), str1 _ (48 + n / 10) (by omega), str1 _ (48 + n % 10) (by omega), if_pos (by show (1 : Nat) + 1 ≤ 9223372036854775807; omega)]
    rfl
def ctS (x : S49) : ByteArray := (((sItoa x.f0 ++ (⟨#[46]⟩ : ByteArray)) ++ sItoa x.f1) ++ (⟨#[46]⟩ : ByteArray)) ++ sItoa x.f2
theorem ctS_eq (x : S49) : ctS x = cTxt x := by
  apply ba_ext
  unfold ctS cTxt nTxt
  simp only [ba_app, List.map_cons, List.map_nil]
  rw [Lib.join_cons]
  simp [Lib.joinTail]
theorem ctS_eq' (x : S49) : (((sItoa x.f0 ++ (⟨#[46]⟩ : ByteArray)) ++ sItoa x.f1) ++ (⟨#[46]⟩ : ByteArray)) ++ sItoa x.f2 = cTxt x := ctS_eq x
theorem sItoa_size {n : Int} (h : 0 ≤ n ∧ n < 100) : (sItoa n).size ≤ 2 := dig_len (n := n.toNat) (by omega)
def tlB : List S49 → ByteArray
  | [] => ⟨#[]⟩
  | x :: r => ((⟨#[44]⟩ : ByteArray) ++ cTxt x) ++ tlB r
theorem ba_assoc (a b c : ByteArray) : (a ++ b) ++ c = a ++ (b ++ c) := ba_ext (by simp only [ba_app, List.append_assoc])
theorem ba_nil (a : ByteArray) : a ++ (⟨#[]⟩ : ByteArray) = a := ba_ext (by rw [ba_app]; simp)
theorem pzText_step {L : List S49} {i k : Nat} {acc s0 s1 s2 : ByteArray} (hi : 1 ≤ i) (hlt : i < L.length) (hL : L.length ≤ 1000) (ha : acc.size ≤ 20000) (z0 : s0.size ≤ 2) (z1 : s1.size ≤ 2) (z2 : s2.size ≤ 2)
    (n0 : spec_l1Num.f k ((rd_T49 L (i : Int)).f0) = some s0) (n1 : spec_l1Num.f k ((rd_T49 L (i : Int)).f1) = some s1) (n2 : spec_l1Num.f k ((rd_T49 L (i : Int)).f2) = some s2) :
    spec_pzText.l0 (k + 1) acc L (L.length : Int) (i : Int) = spec_pzText.l0 k ((acc ++ (⟨#[44]⟩ : ByteArray)) ++ ((((s0 ++ (⟨#[46]⟩ : ByteArray)) ++ s1) ++ (⟨#[46]⟩ : ByteArray)) ++ s2)) L (L.length : Int) ((i + 1 : Nat) : Int) := by
  have w : wrap64 ((i : Int) + 1) = ((i + 1 : Nat) : Int) := by rw [Hw.wrap_id (by omega) (by omega)]; omega
  have s46 : (⟨#[46]⟩ : ByteArray).size = 1 := rfl
  have s44 : (⟨#[44]⟩ : ByteArray).size = 1 := rfl
  simp only [spec_pzText.l0]
  refine Hw.ite_of (by omega) (Hw.ite_of (by omega) (Hw.ite_of (by omega) (Hw.ite_of (by omega) (Hw.ite_of (by omega) (Hw.bind_of n0 (Hw.ite_of (by omega) (Hw.bind_of n1 (Hw.ite_of (by rw [ByteArray.size_append]; omega) (Hw.ite_of (by simp only [ByteArray.size_append]; omega) (Hw.bind_of n2 (Hw.ite_of (by simp only [ByteArray.size_append]; omega) (Hw.ite_of (by simp only [ByteArray.size_append]; omega) ?_))))))))))))
  rw [w]
theorem pzText_step0 {L : List S49} {k : Nat} {acc s0 s1 s2 : ByteArray} (hlt : 0 < L.length) (hL : L.length ≤ 1000) (ha : acc.size ≤ 20000) (z0 : s0.size ≤ 2) (z1 : s1.size ≤ 2) (z2 : s2.size ≤ 2)
    (n0 : spec_l1Num.f k ((rd_T49 L 0).f0) = some s0) (n1 : spec_l1Num.f k ((rd_T49 L 0).f1) = some s1) (n2 : spec_l1Num.f k ((rd_T49 L 0).f2) = some s2) :
    spec_pzText.l0 (k + 1) acc L (L.length : Int) 0 = spec_pzText.l0 k (acc ++ ((((s0 ++ (⟨#[46]⟩ : ByteArray)) ++ s1) ++ (⟨#[46]⟩ : ByteArray)) ++ s2)) L (L.length : Int) ((1 : Nat) : Int) := by
  have w : wrap64 ((0 : Int) + 1) = ((1 : Nat) : Int) := by rw [Hw.wrap_id (by omega) (by omega)]; omega
  have s46 : (⟨#[46]⟩ : ByteArray).size = 1 := rfl
  have s44 : (⟨#[44]⟩ : ByteArray).size = 1 := rfl
  simp only [spec_pzText.l0]
  refine Hw.ite_of (by omega) (Hw.ite_of (by omega) (Hw.ite_of (by omega) (Hw.ite_no (by omega) (Hw.bind_of n0 (Hw.ite_of (by omega) (Hw.bind_of n1 (Hw.ite_of (by rw [ByteArray.size_append]; omega) (Hw.ite_of (by simp only [ByteArray.size_append]; omega) (Hw.bind_of n2 (Hw.ite_of (by simp only [ByteArray.size_append]; omega) (Hw.ite_of (by simp only [ByteArray.size_append]; omega) ?_)))))))))))
  rw [w]
theorem size5 {s0 s1 s2 : ByteArray} (z0 : s0.size ≤ 2) (z1 : s1.size ≤ 2) (z2 : s2.size ≤ 2) : ((((s0 ++ (⟨#[46]⟩ : ByteArray)) ++ s1) ++ (⟨#[46]⟩ : ByteArray)) ++ s2).size ≤ 8 := by
  have s46 : (⟨#[46]⟩ : ByteArray).size = 1 := rfl
  simp only [ByteArray.size_append]
  omega
theorem size6 {acc c : ByteArray} {i : Nat} (h : acc.size ≤ 100 + i * 10) (h2 : c.size ≤ 8) : ((acc ++ (⟨#[44]⟩ : ByteArray)) ++ c).size ≤ 100 + (i + 1) * 10 := by
  have s44 : (⟨#[44]⟩ : ByteArray).size = 1 := rfl
  simp only [ByteArray.size_append]
  omega
theorem pzText_l0 {L : List S49} (hL : L.length ≤ 1000) (hs : L.all smallCB = true) : ∀ (d i k : Nat) (acc : ByteArray), 1 ≤ i → i + d = L.length → d + 3 < k → acc.size ≤ 100 + i * 10 →
    spec_pzText.l0 k acc L (L.length : Int) (i : Int) = some (acc ++ tlB (L.drop i))
  | 0, i, k, acc, h1, h2, h3, h4 => by
    obtain ⟨k, rfl⟩ : ∃ m, k = m + 1 := ⟨k - 1, by omega⟩
    rw [spec_pzText.l0, if_neg (by omega), List.drop_of_length_le (by omega)]
    rw [tlB, ba_nil]
  | d + 1, i, k, acc, h1, h2, h3, h4 => by
    obtain ⟨k, rfl⟩ : ∃ m, k = m + 1 := ⟨k - 1, by omega⟩
    have hlt : i < L.length := by omega
    have hk2 : 2 ≤ k := by omega
    have ha : acc.size ≤ 20000 := by omega
    have hx : rd_T49 L (i : Int) = L[i] := by simp [rd_T49, hlt]
    have hd : L.drop i = L[i] :: L.drop (i + 1) := (List.getElem_cons_drop hlt).symm
    have hc := of_decide_eq_true (List.all_eq_true.1 hs L[i] (List.getElem_mem hlt))
    have e1 : i + 1 + d = L.length := by omega
    have e2 : d + 3 < k := by omega
    rw [pzText_step h1 hlt hL ha (sItoa_size hc.1) (sItoa_size hc.2.1) (sItoa_size hc.2.2) (by rw [hx]; exact l1Num_small hc.1 k hk2) (by rw [hx]; exact l1Num_small hc.2.1 k hk2) (by rw [hx]; exact l1Num_small hc.2.2 k hk2)]
    rw [pzText_l0 hL hs d (i + 1) k _ (Nat.le_add_left 1 i) e1 e2 (size6 h4 (size5 (sItoa_size hc.1) (sItoa_size hc.2.1) (sItoa_size hc.2.2))), hd, tlB]
    rw [ctS_eq']
    simp only [ba_assoc]
theorem tlB_list : ∀ l : List S49, (tlB l).data.toList = Lib.joinTail [44] ((l.map cTxt).map (·.data.toList))
  | [] => rfl
  | x :: r => by
    rw [tlB, ba_app, ba_app, tlB_list r]
    simp [Lib.joinTail]
theorem pzText_is {fl : Int} {L : List S49} (h : smallPz fl L = true) (k : Nat) (hk : L.length + 5 < k) : spec_pzText.f k fl L = some (pTxt fl L) := by
  unfold smallPz at h
  have h1 := Bool.and_eq_true_iff.1 h
  have h2 := Bool.and_eq_true_iff.1 h1.1
  have hf := of_decide_eq_true h2.1
  have hl := of_decide_eq_true h2.2
  have hs := h1.2
  obtain ⟨s, hs1⟩ : ∃ s, s = sItoa fl := ⟨_, rfl⟩
  have z : s.size ≤ 2 := by rw [hs1]; exact sItoa_size hf
  have zz : (s ++ (⟨#[102]⟩ : ByteArray)).size = s.size + 1 := by rw [ByteArray.size_append]; rfl
  have n : spec_l1Num.f k fl = some s := by rw [hs1]; exact l1Num_small hf k (by omega)
  unfold spec_pzText.f
  refine Hw.bind_of n (Hw.ite_of (by omega) ?_)
  unfold pTxt
  rw [← hs1]
  obtain ⟨k, rfl⟩ : ∃ m, k = m + 1 := ⟨k - 1, by omega⟩
  cases L with
  | nil =>
    rw [spec_pzText.l0, if_neg (by simp)]
    congr 1
    exact ba_ext (by rw [ba_app]; simp [jTxt, Lib.join_nil])
  | cons x r =>
    have hc := of_decide_eq_true (List.all_eq_true.1 hs x List.mem_cons_self)
    have hx : rd_T49 (x :: r) 0 = x := rfl
    have hlen : (x :: r).length = r.length + 1 := List.length_cons
    have hk2 : 2 ≤ k := by omega
    have e0 : 0 < (x :: r).length := by omega
    have e1 : 1 + r.length = (x :: r).length := by omega
    have e2 : r.length + 3 < k := by omega
    have ha : (s ++ (⟨#[102]⟩ : ByteArray)).size ≤ 20000 := by omega
    have hq := size5 (sItoa_size hc.1) (sItoa_size hc.2.1) (sItoa_size hc.2.2)
    rw [pzText_step0 e0 hl ha (sItoa_size hc.1) (sItoa_size hc.2.1) (sItoa_size hc.2.2) (by rw [hx]; exact l1Num_small hc.1 k hk2) (by rw [hx]; exact l1Num_small hc.2.1 k hk2) (by rw [hx]; exact l1Num_small hc.2.2 k hk2)]
    rw [ctS_eq'] at hq ⊢
    obtain ⟨ct, hct⟩ : ∃ ct, ct = cTxt x := ⟨_, rfl⟩
    rw [← hct] at hq ⊢
    have hb : ((s ++ (⟨#[102]⟩ : ByteArray)) ++ ct).size ≤ 100 + 1 * 10 := by rw [ByteArray.size_append]; omega
    rw [pzText_l0 hl hs r.length 1 k _ (Nat.le_refl 1) e1 e2 hb]
    congr 1
    apply ba_ext
    simp only [ba_app, tlB_list, List.append_assoc]
    congr 2
    unfold jTxt
    rw [List.map_cons, List.map_cons, Lib.join_cons, hct]
    rfl
/-! ### The reference's reading is total -/
theorem read_l0 (x : ByteArray) (hs : x.size ≤ 6) : ∀ (d i k : Nat) (acc : Int), i + d = x.size → d < k → ∃ r, spec_l1Read.l0 k x acc (i : Int) = some r
  | 0, i, k, acc, h1, h2 => by
    obtain ⟨k, rfl⟩ : ∃ m, k = m + 1 := ⟨k - 1, by omega⟩
    exact ⟨acc, by simp only [spec_l1Read.l0]; exact Hw.ite_no (by omega) rfl⟩
  | d + 1, i, k, acc, h1, h2 => by
    obtain ⟨k, rfl⟩ : ∃ m, k = m + 1 := ⟨k - 1, by omega⟩
    have w : wrap64 ((i : Int) + 1) = ((i + 1 : Nat) : Int) := by rw [Hw.wrap_id (by omega) (by omega)]; omega
    simp only [spec_l1Read.l0, w]
    by_cases c1 : bt x (i : Int) < 48
    · exact ⟨-1, Hw.ite_of (by omega) (Hw.ite_of (by omega) (Hw.ite_of c1 rfl))⟩
    · by_cases c2 : bt x (i : Int) > 57
      · exact ⟨-1, Hw.ite_of (by omega) (Hw.ite_of (by omega) (Hw.ite_no c1 (Hw.ite_of c2 rfl)))⟩
      · obtain ⟨r, hr⟩ := read_l0 x hs d (i + 1) k (wrap64 ((wrap64 (10 * acc)) + (((bt x (i : Int)) - 48) % 256))) (by omega) (by omega)
        exact ⟨r, Hw.ite_of (by omega) (Hw.ite_of (by omega) (Hw.ite_no c1 (Hw.ite_no c2 hr)))⟩
theorem in_is (a b c : Int) : spec_l1In.f a b c = some (decide (b ≤ a ∧ a ≤ c)) := by
  unfold spec_l1In.f
  by_cases h : b ≤ a <;> simp [h]
theorem read_tot (x : ByteArray) (k : Nat) (hk : 10 ≤ k) : ∃ r, spec_l1Read.f k x = some r := by
  obtain ⟨k, rfl⟩ : ∃ m, k = m + 1 := ⟨k - 1, by omega⟩
  unfold spec_l1Read.f
  rw [in_is, Option.bind_some]
  have hj : ∀ b, (b = true ∨ x.size ≤ 6) → ∃ r, spec_l1Read.j0 (k + 1) x b = some r := by
    intro b hb
    simp only [spec_l1Read.j0]
    cases b with
    | true => exact ⟨-1, rfl⟩
    | false =>
      obtain ⟨r, hr⟩ := read_l0 x (by simpa using hb) x.size 0 k 0 (by omega) (by have : x.size ≤ 6 := (by simpa using hb); omega)
      exact ⟨r, by simpa using hr⟩
  by_cases h6 : 1 ≤ (x.size : Int) ∧ (x.size : Int) ≤ 6
  · rw [decide_eq_true h6, if_pos rfl, if_pos (by omega)]
    split
    · exact hj _ (.inr (by omega))
    · exact hj _ (.inr (by omega))
  · rw [decide_eq_false h6, if_neg (by decide)]
    exact hj _ (.inl rfl)
theorem joinL_no (c d : UInt8) (hcd : d ≠ c) : ∀ ws : List (List UInt8), (∀ w ∈ ws, d ∉ w) → d ∉ joinL c ws
  | [], _ => by simp [joinL]
  | [w], h => h w (by simp)
  | w :: v :: r, h => by
    intro hh
    have hh : d ∈ w ++ c :: joinL c (v :: r) := hh
    rcases List.mem_append.1 hh with h1 | h1
    · exact h w (by simp) h1
    · rcases List.mem_cons.1 h1 with h1 | h1
      · exact hcd h1
      · exact joinL_no c d hcd (v :: r) (fun x hx => h x (List.mem_cons_of_mem _ hx)) h1
def GoodR (s : ByteArray) (r : Int × List S49 × Bool) : Prop := r.2.2 = true → impl_IsPuzzle.f r.1 r.2.1 = some true ∧ s = pTxt r.1 r.2.1
theorem pz_end (s : ByteArray) (v : Int) (L : List S49) (hL : L.length ≤ 1000) (k : Nat) (hk : 1000002 < k) : ∃ r, ((spec_pzGood.f k v L).bind fun t145 => (if t145 = true then ((spec_pzText.f k v L).bind fun t146 => (some (v, L, (t146.toList == s.toList)))) else (some (v, L, false)))) = some r ∧ GoodR s r := by
  obtain ⟨b, hb⟩ : ∃ b, impl_IsPuzzle.f v L = some b := ⟨_, rfl⟩
  rw [pzGood_some v L (by omega) k hk, hb, Option.bind_some]
  cases b with
  | false =>
    refine ⟨(v, L, false), ?_, fun h => by cases h⟩
    rw [if_neg (by decide)]
  | true =>
    refine ⟨(v, L, ((pTxt v L).toList == s.toList)), ?_, fun h => ⟨hb, ?_⟩⟩
    · rw [if_pos rfl, pzText_is (puz_small hb) k (by omega), Option.bind_some]
    · have h : ((pTxt v L).toList == s.toList) = true := h
      exact (list_ext (eq_of_beq h)).symm
theorem rdOf_size {m : Nat} {ws : List ByteArray} (h : ∀ w ∈ ws, w.size ≤ m) (i : Int) : (rdOf ByteArray.empty ws i).size ≤ m := by
  unfold rdOf
  rw [List.getD_eq_getElem?_getD]
  cases hg : ws[i.toNat]? with
  | none => exact Nat.zero_le _
  | some w => exact h w (List.mem_of_getElem? hg)
theorem pz_l0 (s : ByteArray) (v : Int) (ws : List ByteArray) (hn : ws.length ≤ 101) (hw : ∀ w ∈ ws, w.size ≤ 100) : ∀ (d i k : Nat) (acc : List S49), i + d = ws.length → acc.length ≤ i → d + 1000200 ≤ k → ∃ r, spec_pzParse.l0 k s ws (ws.length : Int) (i : Int) v acc = some r ∧ GoodR s r
  | 0, i, k, acc, h1, h2, h3 => by
    obtain ⟨k, rfl⟩ : ∃ m, k = m + 1 := ⟨k - 1, by omega⟩
    obtain ⟨r, hr, hg⟩ := pz_end s v acc (by omega) k (by omega)
    refine ⟨r, ?_, hg⟩
    simp only [spec_pzParse.l0]
    exact Hw.ite_no (by omega) hr
  | d + 1, i, k, acc, h1, h2, h3 => by
    obtain ⟨k, rfl⟩ : ∃ m, k = m + 1 := ⟨k - 1, by omega⟩
    have w : wrap64 ((i : Int) + 1) = ((i + 1 : Nat) : Int) := by rw [Hw.wrap_id (by omega) (by omega)]; omega
    have hz := rdOf_size hw (i : Int)
    obtain ⟨t, e1, e2, e3⟩ := split_tot (rdOf ByteArray.empty ws (i : Int)) 46 (by omega) k (by omega)
    by_cases h3 : (t.length : Int) = 3
    · obtain ⟨x, hx⟩ := read_tot (rdOf ByteArray.empty t 0) k (by omega)
      obtain ⟨y, hy⟩ := read_tot (rdOf ByteArray.empty t 1) k (by omega)
      obtain ⟨z, hz⟩ := read_tot (rdOf ByteArray.empty t 2) k (by omega)
      obtain ⟨r, hr, hg⟩ := pz_l0 s v ws hn hw d (i + 1) k (acc ++ [⟨x, y, z⟩]) (by omega) (by simp; omega) (by omega)
      refine ⟨r, ?_, hg⟩
      simp only [spec_pzParse.l0]
      refine Hw.ite_of (by omega) (Hw.ite_of (by omega) (Hw.ite_of (by omega) (Hw.bind_of e1 (Hw.ite_of h3 (Hw.ite_of (by omega) (Hw.bind_of hx (Hw.ite_of (by omega) (Hw.bind_of hy (Hw.ite_of (by omega) (Hw.bind_of hz (Hw.ite_of (by omega) ?_)))))))))))
      rw [w]
      exact hr
    · refine ⟨(0, [], false), ?_, fun h => by cases h⟩
      simp only [spec_pzParse.l0]
      exact Hw.ite_of (by omega) (Hw.ite_of (by omega) (Hw.ite_of (by omega) (Hw.bind_of e1 (Hw.ite_no h3 rfl))))
theorem pz_tot (s : ByteArray) (hs : s.size ≤ 1000000) (k : Nat) (hk : 1001000 ≤ k) : ∃ r, spec_pzParse.f k s = some r ∧ GoodR s r := by
  obtain ⟨k, rfl⟩ : ∃ m, k = m + 1 := ⟨k - 1, by omega⟩
  obtain ⟨ws, e1, e2, e3⟩ := split_tot s 102 hs (k + 1) (by omega)
  unfold spec_pzParse.f
  rw [e1, Option.bind_some]
  by_cases hz : (s.size : Int) > 100
  · rw [if_pos hz]
    exact ⟨(0, [], false), by simp only [spec_pzParse.j0]; exact Hw.ite_of trivial rfl, fun h => by cases h⟩
  · rw [if_neg hz]
    by_cases h2 : (ws.length : Int) = 2
    · have hb : ((ws.length : Int) != 2) = false := by rw [h2]; rfl
      rw [hb]
      obtain ⟨x, hx⟩ := read_tot (rdOf ByteArray.empty ws 0) k (by omega)
      have hz1 := rdOf_size e3 1
      by_cases h0 : ((rdOf ByteArray.empty ws 1).size : Int) > 0
      · obtain ⟨t, f1, f2, f3⟩ := split_tot (rdOf ByteArray.empty ws 1) 44 (by omega) k (by omega)
        obtain ⟨r, hr, hg⟩ := pz_l0 s x t (by omega) (fun w hw => by have := f3 w hw; omega) t.length 0 k [] (by omega) (Nat.le_refl _) (by omega)
        refine ⟨r, ?_, hg⟩
        simp only [spec_pzParse.j0]
        exact Hw.ite_no (by decide) (Hw.ite_of (by omega) (Hw.bind_of hx (Hw.ite_of (by omega) (Hw.ite_of h0 (Hw.bind_of f1 hr)))))
      · obtain ⟨r, hr, hg⟩ := pz_end s x [] (by simp) k (by omega)
        refine ⟨r, ?_, hg⟩
        simp only [spec_pzParse.j0]
        exact Hw.ite_no (by decide) (Hw.ite_of (by omega) (Hw.bind_of hx (Hw.ite_of (by omega) (Hw.ite_no h0 hr))))
    · have hb : ((ws.length : Int) != 2) = true := by simpa using h2
      rw [hb]
      exact ⟨(0, [], false), by simp only [spec_pzParse.j0]; exact Hw.ite_of trivial rfl, fun h => by cases h⟩
/-! ### The reference reads its own texts back -/
theorem pz_l0_is (s : ByteArray) (v : Int) (L : List S49) (hl : L.length ≤ 6) (hL : L.all smallCB = true) (hp : impl_IsPuzzle.f v L = some true) (hs : s = pTxt v L) : ∀ (d i k : Nat), i + d = L.length → d + 1000200 ≤ k → spec_pzParse.l0 k s (L.map cTxt) ((L.map cTxt).length : Int) (i : Int) v (L.take i) = some (v, L, true)
  | 0, i, k, h1, h3 => by
    obtain ⟨k, rfl⟩ : ∃ m, k = m + 1 := ⟨k - 1, by omega⟩
    simp only [spec_pzParse.l0]
    refine Hw.ite_no (by rw [List.length_map]; omega) ?_
    rw [List.take_of_length_le (by omega), pzGood_some v L (by omega) k (by omega), hp, Option.bind_some, if_pos rfl, pzText_is (puz_small hp) k (by omega), Option.bind_some, hs]
    simp
  | d + 1, i, k, h1, h3 => by
    obtain ⟨k, rfl⟩ : ∃ m, k = m + 1 := ⟨k - 1, by omega⟩
    have w : wrap64 ((i : Int) + 1) = ((i + 1 : Nat) : Int) := by rw [Hw.wrap_id (by omega) (by omega)]; omega
    have hlt : i < L.length := by omega
    have hx : rdOf ByteArray.empty (L.map cTxt) (i : Int) = cTxt L[i] := by simp [rdOf, hlt]
    have hsm := List.all_eq_true.1 hL L[i] (List.getElem_mem hlt)
    have hc := of_decide_eq_true hsm
    have hno : ∀ a : Int, 0 ≤ a ∧ a < 100 → (46 : UInt8) ∉ (sItoa a).data.toList := fun a ha => dg_no (n := a.toNat) (by omega) (by decide)
    have hcs : (cTxt L[i]).size ≤ 1000000 := by
      have h9 : (cTxt L[i]).size ≤ 100 := Nat.le_trans (nTxt_len (small3 hsm) ⟨#[46]⟩) (Nat.le_of_ble_eq_true rfl)
      omega
    have h9 : (cTxt L[i]).size ≤ 100 := Nat.le_trans (nTxt_len (small3 hsm) ⟨#[46]⟩) (Nat.le_of_ble_eq_true rfl)
    have e1 := split_is (cTxt L[i]) 46 hcs _ (by simp) (fun w hw => by
      simp only [List.mem_cons, List.not_mem_nil, or_false] at hw
      rcases hw with rfl | rfl | rfl
      · exact hno _ hc.1
      · exact hno _ hc.2.1
      · exact hno _ hc.2.2) (cTxt_list L[i]) k (by omega) 46 rfl
    have e1 : spec_l1Split.f k (rdOf ByteArray.empty (L.map cTxt) (i : Int)) 46 = some [sItoa L[i].f0, sItoa L[i].f1, sItoa L[i].f2] := by rw [hx]; exact e1
    have ih := pz_l0_is s v L hl hL hp hs d (i + 1) k (by omega) (by omega)
    have ht : L.take (i + 1) = L.take i ++ [(⟨L[i].f0, L[i].f1, L[i].f2⟩ : S49)] := by rw [List.take_succ_eq_append_getElem hlt]
    rw [ht] at ih
    simp only [spec_pzParse.l0]
    refine Hw.ite_of (by rw [List.length_map]; omega) (Hw.ite_of (by omega) (Hw.ite_of (by rw [List.length_map]; omega) (Hw.bind_of e1 (Hw.ite_of rfl (Hw.ite_of (show (0:Int) < 3 by decide) (Hw.bind_of (read_is hc.1 k (by omega)) (Hw.ite_of (show (1:Int) < 3 by decide) (Hw.bind_of (read_is hc.2.1 k (by omega)) (Hw.ite_of (show (2:Int) < 3 by decide) (Hw.bind_of (read_is hc.2.2 k (by omega)) (Hw.ite_of (by rw [List.length_take]; omega) ?_)))))))))))
    rw [w]
    exact ih
theorem pz_reads (v : Int) (L : List S49) (hp : impl_IsPuzzle.f v L = some true) (k : Nat) (hk : 1001000 ≤ k) : spec_pzParse.f k (pTxt v L) = some (v, L, true) := by
  have hsm := puz_small hp
  have h := hsm
  unfold smallPz at h
  have h1 := Bool.and_eq_true_iff.1 h
  have h2 := Bool.and_eq_true_iff.1 h1.1
  have hf := of_decide_eq_true h2.1
  have hL := h1.2
  have hl : L.length ≤ 6 := by
    have h := Option.some.inj hp
    simp only [Bool.and_eq_true, decide_eq_true_eq] at h
    exact h.1.2
  obtain ⟨k, rfl⟩ : ∃ m, k = m + 1 := ⟨k - 1, by omega⟩
  have hjl : ∀ w ∈ (L.map cTxt).map (·.data.toList), (44 : UInt8) ∉ w := by
    intro w hw
    simp only [List.map_map, List.mem_map, Function.comp_def] at hw
    obtain ⟨x, hx, rfl⟩ := hw
    exact cTxt_no (List.all_eq_true.1 hL x hx) (by decide) (by decide)
  have hjz : (jTxt L).size ≤ 60 := by
    have h := join_len [44] 9 ((L.map cTxt).map (·.data.toList)) (fun y hy => by
      simp only [List.map_map, List.mem_map, Function.comp_def] at hy
      obtain ⟨x, hx, rfl⟩ := hy
      exact Nat.le_trans (nTxt_len (small3 (List.all_eq_true.1 hL x hx)) ⟨#[46]⟩) (Nat.le_of_eq rfl))
    simp only [List.length_map, List.length_cons, List.length_nil] at h
    have h3 : L.length * (0 + 1 + 9) ≤ 6 * 10 := Nat.mul_le_mul hl (by omega)
    have h4 : (jTxt L).size = (Lib.join ((L.map cTxt).map (·.data.toList)) [44]).length := rfl
    omega
  have hz : (pTxt v L).size ≤ 100 := by
    have : (sItoa v).size ≤ 2 := sItoa_size hf
    unfold pTxt
    obtain ⟨a, ha⟩ : ∃ a, a = sItoa v := ⟨_, rfl⟩
    obtain ⟨j, hj⟩ : ∃ j, j = jTxt L := ⟨_, rfl⟩
    rw [← ha] at this
    rw [← hj] at hjz
    rw [← ha, ← hj, ByteArray.size_append, ByteArray.size_append, show (⟨#[102]⟩ : ByteArray).size = 1 from rfl]
    omega
  have hno : (102 : UInt8) ∉ (jTxt L).data.toList := by
    have h44 : (jTxt L).data.toList = joinL 44 ((L.map cTxt).map (·.data.toList)) := by rw [← joinL_eq]; rfl
    rw [h44]
    exact joinL_no 44 102 (by decide) _ (fun w hw => by
      simp only [List.map_map, List.mem_map, Function.comp_def] at hw
      obtain ⟨x, hx, rfl⟩ := hw
      exact cTxt_no (List.all_eq_true.1 hL x hx) (by decide) (by decide))
  have e1 : spec_l1Split.f (k + 1) (pTxt v L) 102 = some [sItoa v, jTxt L] := by
    refine split_is (pTxt v L) 102 (by omega) [(sItoa v).data.toList, (jTxt L).data.toList] (by simp) (fun w hw => ?_) ?_ (k + 1) (by omega) 102 rfl
    · simp only [List.mem_cons, List.not_mem_nil, or_false] at hw
      rcases hw with rfl | rfl
      · exact dg_no (n := v.toNat) (by omega) (by decide)
      · exact hno
    · unfold pTxt
      rw [ByteArray.data_append, ByteArray.data_append, Array.toList_append, Array.toList_append, List.append_assoc]
      rfl
  have hr := read_is hf k (by omega)
  unfold spec_pzParse.f
  rw [e1, Option.bind_some, if_neg (by omega)]
  rw [show ((([sItoa v, jTxt L].length : Nat) : Int) != 2) = false from rfl]
  simp only [spec_pzParse.j0]
  refine Hw.ite_no (by decide) (Hw.ite_of (show (0:Int) < 2 by decide) (Hw.bind_of hr (Hw.ite_of (show (1:Int) < 2 by decide) ?_)))
  rw [show rdOf ByteArray.empty [sItoa v, jTxt L] 1 = jTxt L from rfl]
  by_cases h0 : L = []
  · subst h0
    rw [if_neg (by decide), pzGood_some v [] (by simp) k (by omega), hp, Option.bind_some, if_pos rfl, pzText_is hsm k (by simp; omega), Option.bind_some]
    simp
  · have hj0 : (jTxt L).size ≠ 0 := by
      intro hz
      have hz2 : (jTxt L).data.toList = [] := List.eq_nil_of_length_eq_zero hz
      rw [show (jTxt L).data.toList = joinL 44 ((L.map cTxt).map (·.data.toList)) by rw [← joinL_eq]; rfl] at hz2
      exact joinL_ne 44 _ (by simpa using h0) (fun w hw => by
        simp only [List.map_map, List.mem_map, Function.comp_def] at hw
        obtain ⟨x, hx, rfl⟩ := hw
        exact cTxt_ne x) hz2
    have e2 := split_is (jTxt L) 44 (by omega) ((L.map cTxt).map (·.data.toList)) (by simpa using h0) hjl (by rw [← joinL_eq]; rfl) k (by omega) 44 rfl
    have e3 : (((L.map cTxt).map (·.data.toList)).map fun w => (⟨w.toArray⟩ : ByteArray)) = L.map cTxt := by
      rw [List.map_map]
      conv => rhs; rw [← List.map_id (L.map cTxt)]
      exact List.map_congr_left fun x _ => rfl
    rw [e3] at e2
    rw [if_pos (by omega), e2, Option.bind_some]
    exact pz_l0_is _ v L hl hL hp rfl L.length 0 k (by omega) (by omega)
theorem spec_is (s : ByteArray) (hs : s.size ≤ 1000000) (k : Nat) (hk : 1001000 ≤ k) : spec_ParsePuzzle.f k s = some ((ppV s).1.1, (ppV s).1.2, (ppV s).2) ∧ (ppV s).1.2.length ≤ 6 := by
  have hpz : ∀ v L, impl_IsPuzzle.f v L = some true → L.length ≤ 6 := by
    intro v L hp
    have h := Option.some.inj hp
    simp only [Bool.and_eq_true, decide_eq_true_eq] at h
    exact h.1.2
  by_cases ht : ∃ v l, ppRead s = some (v, l) ∧ impl_IsPuzzle.f v l = some true ∧ pTxt v l = s
  · obtain ⟨v, l, h1, h2, h3⟩ := ht
    have hv : ppV s = ((v, l), true) := by
      unfold ppV
      rw [h1]
      exact if_pos ⟨h2, h3⟩
    rw [hv]
    refine ⟨?_, hpz v l h2⟩
    unfold spec_ParsePuzzle.f
    rw [← h3, pz_reads v l h2 k hk, Option.bind_some]
    rfl
  · have hv : ppV s = ((0, []), false) := by
      unfold ppV
      cases hr : ppRead s with
      | none => rfl
      | some p =>
        obtain ⟨v, l⟩ := p
        exact if_neg fun hh => ht ⟨v, l, hr, hh.1, hh.2⟩
    rw [hv]
    refine ⟨?_, Nat.zero_le _⟩
    obtain ⟨⟨v, l, b⟩, e, hg⟩ := pz_tot s hs k hk
    unfold spec_ParsePuzzle.f
    rw [e, Option.bind_some]
    cases b with
    | false => rfl
    | true =>
      exfalso
      obtain ⟨h1, h2⟩ := hg rfl
      have h1 : impl_IsPuzzle.f v l = some true := h1
      have h2 : s = pTxt v l := h2
      have h := puz_small h1
      unfold smallPz at h
      have h3 := Bool.and_eq_true_iff.1 h
      have h4 := Bool.and_eq_true_iff.1 h3.1
      exact ht ⟨v, l, by rw [h2]; exact ppRead_pTxt (of_decide_eq_true h4.1) (hpz v l h1) h3.2, h1, h2.symm⟩

theorem FnExactParsePuzzle : laws_FnExactParsePuzzle.Pure := by
  intro a0 _
  by_cases hs : a0.size ≤ 1000000
  case neg =>
    refine ⟨0, ?_⟩
    unfold laws_FnExactParsePuzzle.f
    rw [if_pos (by omega)]
  obtain ⟨hS, hL⟩ := spec_is a0 hs 1001002 (by omega)
  have hI : impl_ParsePuzzle.f a0 = some ((ppV a0).1.1, (ppV a0).1.2, (ppV a0).2) := by
    unfold impl_ParsePuzzle.f
    rw [if_pos hs]
  obtain ⟨v, hv⟩ : ∃ v, v = (ppV a0).1.1 := ⟨_, rfl⟩
  obtain ⟨L, hl⟩ : ∃ L, L = (ppV a0).1.2 := ⟨_, rfl⟩
  obtain ⟨b, hb⟩ : ∃ b, b = (ppV a0).2 := ⟨_, rfl⟩
  rw [← hv, ← hl, ← hb] at hS hI
  rw [← hl] at hL
  refine ⟨1001000 + 1 + 1, ?_⟩
  unfold laws_FnExactParsePuzzle.f
  rw [if_neg (by omega)]
  refine Hw.bind_of hS (Hw.bind_of hI (Hw.bind_of (eqPuzzle_self v L (by omega) _ (by omega)) (Hw.ite_of rfl ?_)))
  simp only [bne_self_eq_false]
  rw [laws_FnExactParsePuzzle.j0, if_neg (by decide)]
  refine Hw.bind_of (markPuzzle_some v L (by omega) _ (by omega)) ?_
  refine Hw.bind_of (heldPuzzle_some v L.length (by omega) _ (by omega)) ?_
  rw [if_neg (by omega), if_pos rfl]
  refine Hw.bind_of hI (Hw.bind_of (eqPuzzle_self v L (by omega) _ (by omega)) (Hw.ite_of rfl ?_))
  simp only [bne_self_eq_false]
  rw [laws_FnExactParsePuzzle.j1, if_neg (by decide)]
  refine Hw.bind_of (heldPuzzle_some v L.length (by omega) _ (by omega)) ?_
  rw [if_neg (by omega), if_pos rfl]

end Go.Proofs.YtmakhnpjfdgocaaDoor.Pure
