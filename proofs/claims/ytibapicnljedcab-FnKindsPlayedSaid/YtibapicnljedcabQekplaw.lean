/- Plain lemmas of this session: what the printed functions answer. -/
import Derived.Test.YtibapicnljedcabQx0
import Derived.Test.YtibapicnljedcabQx1
import Derived.Test.YtibapicnljedcabQx10
import Derived.Test.YtibapicnljedcabQx11
import Derived.Test.YtibapicnljedcabQx12
import Derived.Test.YtibapicnljedcabQx2
import Derived.Test.YtibapicnljedcabQx3
import Derived.Test.YtibapicnljedcabQx4
import Derived.Test.YtibapicnljedcabQx5
import Derived.Test.YtibapicnljedcabQx6
import Derived.Test.YtibapicnljedcabQx7
import Derived.Test.YtibapicnljedcabQx8
import Derived.Test.YtibapicnljedcabQx9
import Derived.Test.YtibapicnljedcabHw
import Derived.Test.YtibapicnljedcabQedraw
import Derived.Test.YtibapicnljedcabQefew
import Derived.Test.YtibapicnljedcabQeidle
import Derived.Test.YtibapicnljedcabQekplay
import Derived.Test.YtibapicnljedcabQekpure
namespace Go.Proofs.Ytibapicnljedcab.Q
open Go.RowKit Go.Proofs.YtibapicnljedcabW.PrintWords Go.Proofs.YtibapicnljedcabW.PrintLast Go.Proofs.YtibapicnljedcabW.PrintMore
set_option linter.unusedVariables false
set_option linter.unusedSimpArgs false
/-! ### What the walk of FnKindsPlayed is handed -/
theorem kinds_tot {l : List Int} (hl : BytesOk l) (a s : Int) (h0 : 0 ≤ a) (h1 : a < 4611686018427380000) : ∃ p q r a' s', spec_l1Cur_kinds.f l a s = some (p, q, r, a', s') ∧ a ≤ a' ∧ a' ≤ a + 8 := by
  unfold spec_l1Cur_kinds.f
  obtain ⟨v, a1, s1, e1, g1, g2⟩ := one_tot hl a s 10 h0 (by omega)
  rw [e1, Option.bind_some]
  cases v with
  | true =>
    simp only [if_true]
    obtain ⟨v2, a2, s2, e2, _, g3, g4⟩ := among_tot hl a1 s1 [(-1), 0, 1, 3, 4] (by decide) (by omega) (by omega)
    rw [e2, Option.bind_some]
    simp only
    obtain ⟨v3, a3, s3, e3, _, g5, g6⟩ := among_tot hl a2 s2 [0, 1, 3, 4] (by decide) (by omega) (by omega)
    rw [e3, Option.bind_some]
    simp only
    obtain ⟨v4, a4, s4, e4, _, g7, g8⟩ := among_tot hl a3 s3 [(-1), 0, 6, 7] (by decide) (by omega) (by omega)
    rw [e4, Option.bind_some]
    exact ⟨_, _, _, _, _, rfl, by simp only; omega, by simp only; omega⟩
  | false =>
    simp only [Bool.false_eq_true, if_false]
    obtain ⟨v2, a2, s2, e2, _, _, g3, g4⟩ := pick_tot hl a1 s1 3 (by omega) (by omega)
    rw [e2, Option.bind_some]
    simp only
    obtain ⟨v3, a3, s3, e3, _, _, g5, g6⟩ := pick_tot hl a2 s2 3 (by omega) (by omega)
    rw [e3, Option.bind_some]
    simp only
    obtain ⟨v4, a4, s4, e4, _, _, g7, g8⟩ := pick_tot hl a3 s3 7 (by omega) (by omega)
    rw [e4, Option.bind_some]
    exact ⟨_, _, _, _, _, rfl, by simp only; omega, by simp only; omega⟩
theorem drawPlay_tot {l : List Int} (hl : BytesOk l) : ∃ a s fl wk st, spec_DrawPlayKinds.f l = some (a, s, fl, wk, st) := by
  unfold spec_DrawPlayKinds.f spec_DrawPlayKinds.v
  obtain ⟨p, q, r, a1, s1, e1, g1, g2⟩ := kinds_tot hl 0 0 (by omega) (by omega)
  rw [e1, Option.bind_some, most_is, Option.bind_some, least_is, Option.bind_some]
  simp only
  obtain ⟨v2, a2, s2, e2, _, _, g3, g4⟩ := pick_tot hl a1 s1 (wrap64 (min 6 (max 0 r) + 1)) (by omega) (by omega)
  rw [e2, Option.bind_some]
  simp only
  obtain ⟨v3, a3, s3, e3, _, _, g5, g6⟩ := pick_tot hl a2 s2 9 (by omega) (by omega)
  rw [e3, Option.bind_some]
  simp only
  obtain ⟨v4, a4, s4, e4, _, _, g7, g8⟩ := pick_tot hl a3 s3 (wrap64 (wrap64 (v2 + wrap64 (Int.tdiv v3 8)) + 1)) (by omega) (by omega)
  rw [e4, Option.bind_some]
  simp only
  obtain ⟨v5, a5, s5, e5, _, _, g9, g10⟩ := pick_tot hl a4 s4 9 (by omega) (by omega)
  rw [e5, Option.bind_some, Option.map_some]
  exact ⟨_, _, _, _, _, rfl⟩
theorem drawHard_tot {l : List Int} (hl : BytesOk l) : ∃ x y n, spec_DrawHardestPairs.f l = some (x, y, n) := by
  unfold spec_DrawHardestPairs.f spec_DrawFewestKinds.f spec_DrawFewestKinds.v
  obtain ⟨p, q, r, a1, s1, e1, g1, g2⟩ := kinds_tot hl 0 0 (by omega) (by omega)
  rw [e1, Option.bind_some, Option.map_some, Option.bind_some]
  exact ⟨_, _, _, rfl⟩
theorem iTests_l0 (L : List S43) (hL : L.length ≤ 1000) : ∀ (d k i : Nat), i + d = L.length → d < k → laws_iTests.l0 k L L (L.length : Int) (i : Int) = some true
  | 0, k, i, h, hk => by
    obtain ⟨k, rfl⟩ : ∃ m, k = m + 1 := ⟨k - 1, by omega⟩
    rw [laws_iTests.l0, if_neg (by omega)]
  | d + 1, k, i, h, hk => by
    obtain ⟨k, rfl⟩ : ∃ m, k = m + 1 := ⟨k - 1, by omega⟩
    have ih := iTests_l0 L hL d k (i + 1) (by omega) (by omega)
    rw [laws_iTests.l0, if_pos (by omega), Hw.wrap_id (by omega) (by omega), show (i : Int) + 1 = ((i + 1 : Nat) : Int) by omega, ih]
    simp
    omega
theorem iTests_self (L : List S43) (hL : L.length ≤ 18) : laws_iTests.f 20 L L = some true := by
  unfold laws_iTests.f
  rw [if_pos rfl]
  exact iTests_l0 L (by omega) L.length 20 0 (by omega) (by omega)
theorem iSame_l0 (L : List Int) (hL : L.length ≤ 1000) : ∀ (d k i : Nat), i + d = L.length → d < k → laws_iSame.l0 k L L (L.length : Int) (i : Int) = some true
  | 0, k, i, h, hk => by
    obtain ⟨k, rfl⟩ : ∃ m, k = m + 1 := ⟨k - 1, by omega⟩
    rw [laws_iSame.l0, if_neg (by omega)]
  | d + 1, k, i, h, hk => by
    obtain ⟨k, rfl⟩ : ∃ m, k = m + 1 := ⟨k - 1, by omega⟩
    rw [laws_iSame.l0, if_pos (by omega), if_pos (by omega), if_pos (by omega), if_pos (by omega), if_pos rfl, Hw.wrap_id (by omega) (by omega), show (i : Int) + 1 = ((i + 1 : Nat) : Int) by omega]
    exact iSame_l0 L hL d k (i + 1) (by omega) (by omega)
theorem iSame_self (L : List Int) (hL : L.length ≤ 1000) (k : Nat) (hk : L.length < k) : laws_iSame.f k L L = some true := by
  unfold laws_iSame.f
  rw [if_pos rfl]
  exact iSame_l0 L hL L.length k 0 (by omega) hk
theorem iRows_l0 (G : List (List Int)) (hG : G.length ≤ 1000) (m : Nat) (hm : m ≤ 1000) (hr : ∀ x ∈ G, x.length ≤ m) : ∀ (d k i : Nat), i + d = G.length → d + m + 1 < k → laws_iRows.l0 k G G (G.length : Int) (i : Int) = some true
  | 0, k, i, h, hk => by
    obtain ⟨k, rfl⟩ : ∃ m, k = m + 1 := ⟨k - 1, by omega⟩
    rw [laws_iRows.l0, if_neg (by omega)]
  | d + 1, k, i, h, hk => by
    obtain ⟨k, rfl⟩ : ∃ m, k = m + 1 := ⟨k - 1, by omega⟩
    have hx : (rd_L3 G (i : Int)).length ≤ m := by
      simp only [rd_L3, Int.toNat_natCast]
      rw [List.getD_eq_getElem?_getD, List.getElem?_eq_getElem (show i < G.length by omega)]
      exact hr _ (List.getElem_mem _)
    rw [laws_iRows.l0, if_pos (by omega), if_pos (by omega), if_pos (by omega), if_pos (by omega), iSame_self _ (by omega) k (by omega), Option.bind_some, if_pos rfl, Hw.wrap_id (by omega) (by omega), show (i : Int) + 1 = ((i + 1 : Nat) : Int) by omega]
    exact iRows_l0 G hG m hm hr d k (i + 1) (by omega) (by omega)
theorem iRows_self (G : List (List Int)) (hG : G.length ≤ 60) (hr : ∀ x ∈ G, x.length ≤ 2) : laws_iRows.f 100 G G = some true := by
  unfold laws_iRows.f
  rw [if_pos rfl]
  exact iRows_l0 G (by omega) 2 (by omega) hr G.length 100 0 (by omega) (by omega)
theorem kp_all (a s fl wk st : Int) : ∃ (P : List S43) (ok : Bool) (ct fw : Int) (th kd : Bool) (fr : Int) (fv : Bool) (al : Int),
    impl_PlayKinds.f a s fl wk st = some (P, ok) ∧ spec_PlayKinds.f a s fl wk st = some (P, ok) ∧ impl_CountKindTests.f a s fl wk st = some (ct, ok) ∧ spec_CountKindTests.f a s fl wk st = some (ct, ok) ∧
    impl_FewestKinds.f a s fl = some (fw, th) ∧ spec_FewestKinds.f a s fl = some (fw, th) ∧ impl_FirstKindTest.f a s fl = some (kd, fr, fv) ∧ spec_FirstKindTest.f a s fl = some (kd, fr, fv) ∧
    impl_FewestForWeak.f a s fl = some (al, th) ∧ spec_FewestForWeak.f a s fl = some (al, th) ∧ fv = (th && decide (0 < fl)) ∧ (ok = true → th = true) ∧
    (th = true → al ≤ fw ∧ 0 ≤ al ∧ (fw = 0 ↔ fl = 0) ∧ ∃ sg, impl_FewestTests.f a fl = some (sg, true) ∧ al ≤ sg) ∧
    (ok = true → ct = P.length ∧ ct ≤ fw ∧ impl_PairsLeft.f 1000 fl P = some ([[wk, st]], true) ∧ impl_IdleKindTests.f 1000 fl P = some ([], true) ∧ ((P.filter fun u => u.f2 && !u.f0).length : Int) ≤ a ∧ ((P.filter fun u => u.f2 && u.f0).length : Int) ≤ s ∧ (0 < P.length → (rd_T43 P 0).f0 = kd ∧ (rd_T43 P 0).f1 = fr)) ∧ P.length ≤ 12 := by
  unfold impl_PlayKinds.f spec_PlayKinds.f impl_CountKindTests.f spec_CountKindTests.f impl_FewestKinds.f spec_FewestKinds.f impl_FirstKindTest.f spec_FirstKindTest.f impl_FewestForWeak.f spec_FewestForWeak.f impl_PlayKinds.f spec_PlayKinds.f
  cases h3 : kAsk a s fl with
  | false => exact ⟨[], false, 0, 0, false, false, 0, false, 0, rfl, rfl, rfl, rfl, rfl, rfl, rfl, rfl, rfl, rfl, rfl, by simp, by simp, by simp, by simp⟩
  | true =>
    have q := kp_asked h3
    have hfv : (!(fl == 0)) = decide (0 < fl) := by
      have := q.fl0
      by_cases h : fl = 0
      · subst h; rfl
      · rw [show (fl == 0) = false by simpa using h, show decide (0 < fl) = true from decide_eq_true (by omega)]; rfl
    have hth : gJ (kStart a s fl) ≤ gI (kStart a s fl) ∧ 0 ≤ gJ (kStart a s fl) ∧ (gI (kStart a s fl) = 0 ↔ fl = 0) ∧ ∃ sg, impl_FewestTests.f a fl = some (sg, true) ∧ gJ (kStart a s fl) ≤ sg := by
      refine ⟨q.le, q.lo, q.zero, _, ?_, q.single⟩
      unfold impl_FewestTests.f
      rw [q.ask]; rfl
    have hsF := q.sf
    have hsJ := q.sj
    rw [hsF, hsJ]
    obtain ⟨kd, fr, fv, e1, e2⟩ : ∃ kd fr fv, some (if (true && !(fl == 0)) = true then ((kFirst (kStart a s fl)).1, (kFirst (kStart a s fl)).2, true) else (false, 0, false)) = some (kd, fr, fv) ∧ fv = (true && decide (0 < fl)) ∧ (0 < fl → (kFirst (kStart a s fl)).1 = kd ∧ (kFirst (kStart a s fl)).2 = fr) := by
      rw [hfv]
      by_cases h : 0 < fl
      · rw [decide_eq_true h]; exact ⟨_, _, _, rfl, rfl, fun _ => ⟨rfl, rfl⟩⟩
      · rw [decide_eq_false h]; exact ⟨_, _, _, rfl, rfl, fun h_ => absurd h_ h⟩
    cases h4 : kPair fl wk st with
    | false => exact ⟨[], false, 0, gI (kStart a s fl), true, kd, fr, fv, gJ (kStart a s fl), rfl, rfl, rfl, rfl, rfl, rfl, e1, e1, rfl, rfl, e2.1, by simp, fun _ => hth, by simp, by simp⟩
    | true =>
      have p := kp_played h3 h4
      refine ⟨playK a s fl wk st, true, (playK a s fl wk st).length, gI (kStart a s fl), true, kd, fr, fv, gJ (kStart a s fl), rfl, rfl, rfl, rfl, rfl, rfl, e1, e1, rfl, rfl, e2.1, by simp, fun _ => hth, fun _ => ⟨rfl, p.le, p.left, p.idle, p.weak, p.strong, fun hp => ?_⟩, p.len⟩
      have h5 : 0 < fl := by
        have h6 := p.le
        have h7 := q.zero
        have h8 := q.fl0
        rcases (by omega : fl = 0 ∨ 0 < fl) with h | h
        · have := h7.2 h; omega
        · exact h
      have h6 := p.first hp
      have h7 := e2.2 h5
      exact ⟨h6.1.trans h7.1, h6.2.trans h7.2⟩
theorem kp_all2 (x y n : Int) : ∃ (G : List (List Int)) (nn : Bool), impl_HardestPairs.f x y n = some (G, nn) ∧ spec_HardestPairs.f x y n = some (G, nn) ∧ laws_iRows.f 100 G G = some true ∧
    (nn = true → ∃ mst, impl_FewestKinds.f x y n = some (mst, true) ∧ 1 ≤ G.length ∧ G.length ≤ 56 ∧ ∀ p ∈ G, ∃ u v, p = [u, v] ∧ impl_CountKindTests.f x y n u v = some (mst, true)) := by
  unfold impl_HardestPairs.f spec_HardestPairs.f
  cases h3 : kAsk x y n with
  | false =>
    have e : hardK x y n = ([], false) := by unfold hardK; rw [if_neg (by rw [h3]; decide)]
    rw [e]
    exact ⟨[], false, rfl, rfl, rfl, by simp⟩
  | true =>
    obtain ⟨G, e⟩ : ∃ G, hardK x y n = (G, true) := by unfold hardK; rw [if_pos h3]; exact ⟨_, rfl⟩
    have h := kp_hard h3 G e
    rw [e]
    refine ⟨G, true, rfl, rfl, iRows_self G (by omega) fun x hx => ?_, fun _ => ⟨_, ?_, h⟩⟩
    · obtain ⟨u, v, rfl, _⟩ := h.2.2 x hx
      simp
    · unfold impl_FewestKinds.f
      rw [h3]; rfl
theorem cnt_step (p : S43 → Bool) (P : List S43) (i : Nat) (h : i < P.length) (e : S43) (he : e = rd_T43 P (i : Int)) : ((((P.take (i + 1)).filter p).length : Nat) : Int) = (((P.take i).filter p).length : Int) + (if p e then 1 else 0) := by
  have h1 : P[i] = e := by rw [he]; simp [rd_T43, h]
  rw [← List.take_append_getElem h, List.filter_append, List.length_append, h1, List.filter_cons]
  cases p e <;> simp
theorem cnt_le (p : S43 → Bool) (P : List S43) (i : Nat) : ((P.take i).filter p).length ≤ P.length := Nat.le_trans (List.length_filter_le _ _) (by rw [List.length_take]; omega)
theorem lit_C (w : World) (g : Nat) (xs : List Int) (cs : Array Value) (hcs : cs = (xs.map (Value.int .i64)).toArray) (h : w.heap[g]? = some (.cells cs 3 (0, 0))) (hl : xs.length ≤ 1000) : Kd.C (Kd.int .i64) w (some ⟨g, 0, none⟩) xs.length xs := by
  refine ⟨rfl, by omega, fun _ => ⟨_, rfl, fun j p hp => ⟨[.int .i64 p], rfl, rfl, fun i u hu => ?_⟩⟩⟩
  cases i with
  | succ i => cases hu
  | zero =>
    have e : u = .int .i64 p := by simpa using hu.symm
    subst hcs e
    rw [Hw.add_off]
    refine (blk_cell h _).trans ?_
    show (xs.map (Value.int .i64)).toArray[j * 1 + 0]? = _
    simp [hp]
theorem lit_rows (w : World) (wk st : Int) : Kd.C (Kd.slice 3 (Kd.int .i64)) ((w.alloc (.cells #[.int .i64 wk, .int .i64 st] 3)).alloc (.cells #[.slice (some ⟨w.heap.size, 0, none⟩) 2 2] 39)) (some ⟨w.heap.size + 1, 0, none⟩) 1 [[wk, st]] := by
  obtain ⟨W1, hW1⟩ : ∃ W1, W1 = w.alloc (.cells #[.int .i64 wk, .int .i64 st] 3) := ⟨_, rfl⟩
  have h1 : W1.heap[w.heap.size]? = some (.cells #[.int .i64 wk, .int .i64 st] 3 (0, 0)) := by rw [hW1]; exact blk_new _ _
  have hs : W1.heap.size = w.heap.size + 1 := by rw [hW1]; exact World.size_alloc _ _
  rw [← hW1, ← hs]
  have h2 := blk_new W1 (.cells #[.slice (some ⟨w.heap.size, 0, none⟩) 2 2] 39)
  have h3 := blk_alloc h1 (.cells #[.slice (some ⟨w.heap.size, 0, none⟩) 2 2] 39)
  refine ⟨rfl, by omega, fun _ => ⟨_, rfl, fun j p hp => ?_⟩⟩
  cases j with
  | succ j => cases hp
  | zero =>
    have e : p = [wk, st] := by simpa using hp.symm
    subst e
    refine ⟨[.slice (some ⟨w.heap.size, 0, none⟩) 2 2], rfl, ⟨some ⟨w.heap.size, 0, none⟩, 2, rfl, by simp, lit_C _ _ [wk, st] _ rfl h3 (by simp)⟩, fun i u hu => ?_⟩
    cases i with
    | succ i => cases hu
    | zero =>
      have e : u = .slice (some ⟨w.heap.size, 0, none⟩) 2 2 := by simpa using hu.symm
      subst e
      rw [Hw.add_off]
      exact (blk_cell h2 _).trans rfl
end Go.Proofs.Ytibapicnljedcab.Q
