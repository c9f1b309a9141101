/- Plain lemmas of this session: what the printed functions answer. -/
import Derived.Test.YtibapicnljedcabQx0
import Derived.Test.YtibapicnljedcabQx1
import Derived.Test.YtibapicnljedcabQx10
import Derived.Test.YtibapicnljedcabQx11
import Derived.Test.YtibapicnljedcabQx12
import Derived.Test.YtibapicnljedcabQx2
import Derived.Test.YtibapicnljedcabQx3
import Derived.Test.YtibapicnljedcabQx4
import Derived.Test.YtibapicnljedcabQx5
import Derived.Test.YtibapicnljedcabQx6
import Derived.Test.YtibapicnljedcabQx7
import Derived.Test.YtibapicnljedcabQx8
import Derived.Test.YtibapicnljedcabQx9
import Derived.Test.YtibapicnljedcabHw
import Derived.Test.YtibapicnljedcabQedraw
import Derived.Test.YtibapicnljedcabQefew
import Derived.Test.YtibapicnljedcabQeidle
import Derived.Test.YtibapicnljedcabQekplay
namespace Go.Proofs.Ytibapicnljedcab.Q
open Go.RowKit Go.Proofs.YtibapicnljedcabW.PrintWords Go.Proofs.YtibapicnljedcabW.PrintLast Go.Proofs.YtibapicnljedcabW.PrintMore
set_option linter.unusedVariables false
set_option linter.unusedSimpArgs false
/-! ### What the law FnKindsPlayed asks, in plain Lean -/
def allRow (wk : Int) : Nat → Int → List (Int × Int)
  | 0, _ => []
  | n + 1, s => (wk, s) :: allRow wk n (s + 1)
def allAll (fl : Int) : Nat → Int → List (Int × Int)
  | 0, _ => []
  | n + 1, wk => allRow wk (fl + 1 - wk).toNat wk ++ allAll fl n (wk + 1)
def allp (fl : Int) : List (Int × Int) := allAll fl (fl + 1).toNat 0
def two (p : Int × Int) : List Int := [p.1, p.2]
theorem pairsRow_is (L : List S43) (wk : Int) : ∀ (n : Nat) (s : Int), pairsRow L wk n s = ((allRow wk n s).filter fun p => L.all (kfits p.1 p.2)).map two
  | 0, _ => rfl
  | n + 1, s => by
    unfold pairsRow allRow
    rw [List.filter_cons, pairsRow_is L wk n (s + 1)]
    split <;> rename_i h
    · rfl
    · rfl
theorem pairsAll_is (fl : Int) (L : List S43) : ∀ (n : Nat) (wk : Int), pairsAll fl L n wk = ((allAll fl n wk).filter fun p => L.all (kfits p.1 p.2)).map two
  | 0, _ => rfl
  | n + 1, wk => by
    unfold pairsAll allAll
    rw [List.filter_append, List.map_append, pairsRow_is, pairsAll_is fl L n (wk + 1)]
theorem pairsF_is (fl : Int) (L : List S43) : pairsF fl L = ((allp fl).filter fun p => L.all (kfits p.1 p.2)).map two := pairsAll_is _ _ _ _
theorem mem_allRow (wk : Int) : ∀ (n : Nat) (s : Int) (p : Int × Int), p ∈ allRow wk n s ↔ p.1 = wk ∧ s ≤ p.2 ∧ p.2 < s + n
  | 0, s, p => by simp only [allRow, List.not_mem_nil, false_iff]; omega
  | n + 1, s, p => by
    unfold allRow
    rw [List.mem_cons, mem_allRow wk n (s + 1) p]
    obtain ⟨x, y⟩ := p
    simp only [Prod.mk.injEq]
    omega
theorem mem_allAll (fl : Int) : ∀ (n : Nat) (wk : Int) (p : Int × Int), p ∈ allAll fl n wk ↔ wk ≤ p.1 ∧ p.1 < wk + n ∧ p.1 ≤ p.2 ∧ p.2 ≤ fl
  | 0, wk, p => by simp only [allAll, List.not_mem_nil, false_iff]; omega
  | n + 1, wk, p => by
    unfold allAll
    rw [List.mem_append, mem_allRow, mem_allAll fl n (wk + 1) p]
    omega
theorem mem_allp {fl : Int} (h : 0 ≤ fl) (p : Int × Int) : p ∈ allp fl ↔ 0 ≤ p.1 ∧ p.1 ≤ p.2 ∧ p.2 ≤ fl := by
  unfold allp
  rw [mem_allAll]
  omega
theorem allp_nodup {fl : Int} (h0 : 0 ≤ fl) (h1 : fl ≤ 6) : (allp fl).Nodup := by
  rcases (by omega : fl = 0 ∨ fl = 1 ∨ fl = 2 ∨ fl = 3 ∨ fl = 4 ∨ fl = 5 ∨ fl = 6) with rfl | rfl | rfl | rfl | rfl | rfl | rfl <;> decide +kernel
theorem filter_one {α : Type} (l : List α) (p : α → Bool) (a : α) (hn : l.Nodup) (ha : a ∈ l) (hp : ∀ b ∈ l, p b = true ↔ b = a) : l.filter p = [a] := by
  induction l with
  | nil => cases ha
  | cons b l ih =>
    rw [List.nodup_cons] at hn
    rw [List.filter_cons]
    rcases List.mem_cons.1 ha with rfl | ha
    · rw [if_pos ((hp a (by simp)).2 rfl)]
      congr 1
      refine List.filter_eq_nil_iff.2 fun b hb h => ?_
      have := (hp b (by simp [hb])).1 h
      subst this
      exact hn.1 hb
    · have hne : b ≠ a := fun e => hn.1 (e ▸ ha)
      rw [if_neg (fun h => hne ((hp b (by simp)).1 h))]
      exact ih hn.2 ha fun c hc => hp c (by simp [hc])
theorem filter_less {α : Type} (l : List α) (p q : α → Bool) (h : ∀ b ∈ l, p b = true → q b = true) (a : α) (ha : a ∈ l) (hq : q a = true) (hp : p a = false) : (l.filter p).length < (l.filter q).length := by
  have hle : ∀ l : List α, (∀ b ∈ l, p b = true → q b = true) → (l.filter p).length ≤ (l.filter q).length := by
    intro l
    induction l with
    | nil => intro _; exact Nat.le_refl _
    | cons b l ih =>
      intro hh
      have i1 := ih fun c hc => hh c (by simp [hc])
      have i2 := hh b (by simp)
      rw [List.filter_cons, List.filter_cons]
      cases hb : p b
      · cases hb2 : q b <;> simp <;> omega
      · rw [i2 hb]; simp; omega
  induction l with
  | nil => cases ha
  | cons b l ih =>
    rw [List.filter_cons, List.filter_cons]
    rcases List.mem_cons.1 ha with rfl | ha
    · rw [hq, hp]
      have := hle l fun c hc => h c (by simp [hc])
      simp; omega
    · have i1 := ih (fun c hc => h c (by simp [hc])) ha
      have i2 := h b (by simp)
      cases hb : p b
      · cases hb2 : q b <;> simp <;> omega
      · rw [i2 hb]; simp; omega
theorem kfits_toS (u : Bool × Int × Bool) (x y : Int) : kfits x y (toS u) = (kBreaks (u.1, u.2.1) x y == u.2.2) := by
  obtain ⟨st, f, br⟩ := u
  unfold kfits toS impl_KindTest_fits.f kBreaks
  cases st <;> cases br <;> simp
theorem kfits_all (T : List (Bool × Int × Bool)) (x y : Int) : (T.map toS).all (kfits x y) = kAll T x y := by
  unfold kAll
  rw [List.all_map]
  congr 1
  funext u
  exact kfits_toS u x y
theorem play_floors (wk st : Int) : ∀ (n : Nat) (k : KS), KGood k → gI k < 1000 → ∀ u ∈ kPlay wk st n k, 1 ≤ u.2.1 ∧ u.2.1 ≤ k.d := by
  intro n
  induction n with
  | zero => intro k _ _ u hu; simp [kPlay] at hu
  | succ n ih =>
    intro k hk hf u hu
    unfold kPlay at hu
    split at hu
    · cases hu
    · rename_i hd
      have hd' : k.done = false := by simpa using hd
      obtain ⟨a1, _, a3⟩ := kFirst_aft hk hd' hf (kBreaks (kFirst k) wk st)
      have h1 := (kFirst_is hk hd' hf).1
      have hk2 := hk
      unfold KGood at hk2
      rcases List.mem_cons.1 hu with rfl | hu
      · rcases mem_tests h1 with ⟨e, g1, g2, g3⟩ | ⟨e, g1, g2, g3⟩ <;> simp only <;> omega
      · have h2 := ih _ a1 a3 u hu
        have h3 : (k.aft (kFirst k).1 (kBreaks (kFirst k) wk st) (kFirst k).2).d ≤ k.d := by
          rcases mem_tests h1 with ⟨e, g1, g2, g3⟩ | ⟨e, g1, g2, g3⟩ <;> rw [e] <;> cases kBreaks (kFirst k) wk st <;> simp only [KS.aft, KS.tight, if_true, if_false, Bool.false_eq_true] <;> omega
        omega
theorem play_len (wk st : Int) : ∀ (n : Nat) (k : KS), (kPlay wk st n k).length ≤ n := by
  intro n
  induction n with
  | zero => intro k; simp [kPlay]
  | succ n ih => intro k; unfold kPlay; split <;> simp <;> exact ih _
structure KPlayed (a s fl wk st : Int) (P : List S43) : Prop where
  le : (P.length : Int) ≤ gI (kStart a s fl)
  len : P.length ≤ 12
  left : impl_PairsLeft.f 1000 fl P = some ([[wk, st]], true)
  idle : impl_IdleKindTests.f 1000 fl P = some ([], true)
  weak : ((P.filter fun u => u.f2 && !u.f0).length : Int) ≤ a
  strong : ((P.filter fun u => u.f2 && u.f0).length : Int) ≤ s
  first : 0 < P.length → (rd_T43 P 0).f0 = (kFirst (kStart a s fl)).1 ∧ (rd_T43 P 0).f1 = (kFirst (kStart a s fl)).2
theorem idleF_nil (fl : Int) (L : List S43) (h : ∀ i, i < L.length → (pairsF fl (L.take (i + 1))).length ≠ (pairsF fl (L.take i)).length ∧ (pairsF fl (L.take (i + 1))).length ≠ 0) : ∀ (n i : Nat), i + n = L.length → idleF fl L n i = []
  | 0, _, _ => rfl
  | n + 1, i, hi => by
    have h1 := h i (by omega)
    unfold idleF
    rw [if_neg (by omega), if_neg (by omega)]
    exact idleF_nil fl L h n (i + 1) (by omega)
theorem kp_played {a s fl wk st : Int} (h3 : kAsk a s fl = true) (h4 : kPair fl wk st = true) : KPlayed a s fl wk st (playK a s fl wk st) := by
  have hg := kAsk_good h3
  have hf := kAsk_low h3
  have hfl := kAsk_fl h3
  have hp : 0 ≤ wk ∧ wk ≤ st ∧ st ≤ fl := of_decide_eq_true h4
  obtain ⟨k, hk⟩ : ∃ k, k = kStart a s fl := ⟨_, rfl⟩
  have hin : ∀ x y, x ≤ y → (KIn k x y ↔ 0 ≤ x ∧ x ≤ y ∧ y ≤ fl) := fun x y hxy => by rw [hk]; unfold KIn kStart; simp only; omega
  have hms : k.ms ≤ 12 := by have := hg.1; rw [← hk] at this; unfold KGood at this; unfold KS.ms; omega
  have hd6 : k.d = fl := by rw [hk]; rfl
  have hwa : k.w = a := by rw [hk]; rfl
  have hsa : k.s = s := by rw [hk]; rfl
  rw [← hk] at hg hf
  obtain ⟨T, hT⟩ : ∃ T, T = kPlay wk st k.ms k := ⟨_, rfl⟩
  have hP : playK a s fl wk st = T.map toS := by unfold playK; rw [hT, hk]
  have hTl : T.length ≤ 12 := by rw [hT]; exact Nat.le_trans (play_len _ _ _ _) hms
  have hself : KIn k wk st := (hin wk st hp.2.1).2 hp
  have hAre : impl_AreKindTests.f fl (T.map toS) = some true := by
    unfold impl_AreKindTests.f
    congr 1
    simp only [Bool.and_eq_true, decide_eq_true_eq, List.length_map, List.all_map, List.all_eq_true]
    refine ⟨⟨⟨hfl.1, hfl.2⟩, by omega⟩, fun u hu => ?_⟩
    have := play_floors wk st _ k hg.1 hf u (by rw [← hT]; exact hu)
    show inFl fl (toS u) = true
    unfold inFl
    rw [Bool.and_eq_true]
    exact ⟨decide_eq_true this.1, decide_eq_true (show u.2.1 ≤ fl by omega)⟩
  have hpairs : ∀ i, pairsF fl ((T.map toS).take i) = ((allp fl).filter fun p => kAll (T.take i) p.1 p.2).map two := fun i => by
    rw [pairsF_is, ← List.map_take]
    congr 2
    funext p
    exact kfits_all _ _ _
  have hat : ∀ (i : Nat) (p : Int × Int), p ∈ allp fl → (kAll (T.take i) p.1 p.2 = true ↔ KIn (kAt wk st i k) p.1 p.2) := fun i p hpm => by
    have hm := (mem_allp hfl.1 p).1 hpm
    rw [kAt_in wk st p.1 p.2 hm.2.1 k.ms i k hg.1 hf (Nat.le_refl _), ← hT]
    have := (hin p.1 p.2 hm.2.1).2 hm
    exact ⟨fun q => ⟨this, q⟩, fun q => q.2⟩
  have hsm : (wk, st) ∈ allp fl := (mem_allp hfl.1 _).2 hp
  refine ⟨?_, ?_, ?_, ?_, ?_, ?_, ?_⟩
  · rw [hP, List.length_map, hT, ← hk]; exact play_le wk st _ k hg.1 hf (Nat.le_refl _)
  · rw [hP, List.length_map]; exact hTl
  · rw [hP]
    unfold impl_PairsLeft.f
    rw [hAre, Option.bind_some, if_pos rfl, impl_pairs fl _ hfl.1 hfl.2 1000 (by omega), Option.bind_some]
    have h5 := hpairs T.length
    rw [List.take_of_length_le (by simp), List.take_of_length_le (Nat.le_refl _)] at h5
    rw [h5, filter_one (allp fl) _ (wk, st) (allp_nodup hfl.1 hfl.2) hsm fun p hpm => ?_]
    · rfl
    · have hm := (mem_allp hfl.1 p).1 hpm
      have h6 := play_settles wk st hp.2.1 k.ms k hg.1 hf (Nat.le_refl _) hself p.1 p.2 hm.2.1
      rw [← hT] at h6
      obtain ⟨x, y⟩ := p
      simp only [Prod.mk.injEq]
      rw [← h6]
      exact ⟨fun q => ⟨(hin x y hm.2.1).2 hm, q⟩, fun q => q.2⟩
  · rw [hP]
    unfold impl_IdleKindTests.f
    rw [hAre, Option.bind_some, if_pos rfl]
    have h5 := idle_impl fl (T.map toS) hfl.1 hfl.2 (by rw [List.length_map]; omega) (T.map toS).length 0 [] 1000 (by omega) (by simp) (by rw [List.length_map]; omega)
    rw [idleF_nil fl (T.map toS) (fun i hi => ?_) _ 0 (by omega)] at h5
    · simpa using h5
    · rw [hpairs, hpairs, List.length_map, List.length_map]
      rw [List.length_map] at hi
      obtain ⟨x, y, q1, q2, q3⟩ := kAt_less wk st k.ms i k hg.1 hf (Nat.le_refl _) (by rw [← hT]; exact hi)
      have q4 := (kAt_in wk st x y q1 k.ms i k hg.1 hf (Nat.le_refl _)).1 q2
      have q5 : (x, y) ∈ allp fl := (mem_allp hfl.1 _).2 ((hin x y q1).1 q4.1)
      have lt := filter_less (allp fl) (fun p => kAll (T.take (i + 1)) p.1 p.2) (fun p => kAll (T.take i) p.1 p.2) (fun p hpm hq => ?_) (x, y) q5 ((hat i _ q5).2 q2) ?_
      · refine ⟨by omega, fun h0 => ?_⟩
        have e0 := List.length_eq_zero_iff.1 h0
        have m0 : (wk, st) ∈ (allp fl).filter fun p => kAll (T.take (i + 1)) p.1 p.2 := List.mem_filter.2 ⟨hsm, (hat (i + 1) _ hsm).2 (kAt_self wk st hp.2.1 (i + 1) k hg.1 hf hself)⟩
        rw [e0] at m0
        cases m0
      · unfold kAll at hq ⊢
        rw [List.all_eq_true] at hq ⊢
        exact fun u hu => hq u (by rw [List.take_add_one]; exact List.mem_append_left _ hu)
      · cases hz : kAll (T.take (i + 1)) x y with
        | false => rfl
        | true => exact absurd ((hat (i + 1) _ q5).1 hz) q3
  · have h5 := (play_eggs wk st k.ms k hg.1 hf).1
    rw [← hT, hwa] at h5
    rw [hP, List.filter_map, List.length_map]
    exact h5
  · have h5 := (play_eggs wk st k.ms k hg.1 hf).2
    rw [← hT, hsa] at h5
    rw [hP, List.filter_map, List.length_map]
    exact h5
  · intro h0
    rw [hP] at h0 ⊢
    rw [List.length_map, hT] at h0
    rw [hT, ← hk]
    obtain ⟨n, hn⟩ : ∃ n, n = k.ms := ⟨_, rfl⟩
    rw [← hn] at h0 ⊢
    cases n with
    | zero => simp [kPlay] at h0
    | succ n =>
      unfold kPlay at h0 ⊢
      cases hd : k.done with
      | true => rw [hd] at h0; simp at h0
      | false => rw [if_neg (by decide)]; exact ⟨rfl, rfl⟩
structure KAsked (a s fl : Int) : Prop where
  le : gJ (kStart a s fl) ≤ gI (kStart a s fl)
  lo : 0 ≤ gJ (kStart a s fl)
  single : gJ (kStart a s fl) ≤ (few a.toNat fl : Nat)
  zero : gI (kStart a s fl) = 0 ↔ fl = 0
  sf : sF (kStart a s fl) = gI (kStart a s fl)
  sj : sJ (kStart a s fl) = gJ (kStart a s fl)
  low : gI (kStart a s fl) < 1000
  ask : hAsk a fl = true
  fl0 : 0 ≤ fl
theorem kp_asked {a s fl : Int} (h3 : kAsk a s fl = true) : KAsked a s fl := by
  have hg := kAsk_good h3
  have hf := kAsk_low h3
  have hfl := kAsk_fl h3
  have ha : 1 ≤ a ∧ a ≤ 3 ∧ 1 ≤ s ∧ s ≤ 3 ∧ 0 ≤ fl ∧ fl ≤ 6 := of_decide_eq_true h3
  have hle := weak_le _ _ hg.1 (Nat.le_refl _)
  refine ⟨hle, gJ_lo _, ?_, ?_, ?_, ?_, hf, ?_, hfl.1⟩
  · refine weak_reach _ _ hg.1 ?_
    show fl - 0 ≤ reachAt (few a.toNat fl) a.toNat
    have := few_reach a.toNat fl (by omega) (by omega) (by omega)
    omega
  · constructor
    · intro h
      cases hd : (kStart a s fl).done with
      | true => exact ((done_iff _).1 hd).1.symm
      | false => have := gI_pos hg.1 hd; omega
    · intro h
      exact gI_done ((done_iff _).2 ⟨h.symm, h.symm⟩)
  · unfold sF; omega
  · unfold sJ; have := gJ_lo (kStart a s fl); omega
  · unfold hAsk; exact decide_eq_true (by omega)
theorem scan_spec (cnt : List Int → Int) : ∀ (l out : List (List Int)) (m : Int), (∀ x ∈ out, cnt x = m) → ∃ M, m ≤ M ∧ (∀ p ∈ l, cnt p ≤ M) ∧ (∀ x ∈ hardScan cnt l out m, cnt x = M ∧ (x ∈ out ∨ x ∈ l)) ∧ (M = m ∨ ∃ p ∈ l, cnt p = M) ∧ ((out ≠ [] ∨ ∃ p ∈ l, m ≤ cnt p) → hardScan cnt l out m ≠ []) := by
  intro l
  induction l with
  | nil =>
    intro out m h
    refine ⟨m, Int.le_refl _, by simp, fun x hx => ⟨h x hx, .inl hx⟩, .inl rfl, ?_⟩
    rintro (h1 | ⟨p, hp, _⟩)
    · exact h1
    · cases hp
  | cons p l ih =>
    intro out m h
    unfold hardScan
    by_cases h1 : cnt p > m
    · rw [if_pos h1]
      obtain ⟨M, a1, a2, a3, a4, a5⟩ := ih [p] (cnt p) (fun x hx => by rw [List.mem_singleton.1 hx])
      refine ⟨M, by omega, fun q hq => ?_, fun x hx => ?_, ?_, fun _ => a5 (.inl (by simp))⟩
      · rcases List.mem_cons.1 hq with rfl | hq
        · exact a1
        · exact a2 q hq
      · obtain ⟨b1, b2⟩ := a3 x hx
        refine ⟨b1, .inr ?_⟩
        rcases b2 with b2 | b2
        · rw [List.mem_singleton.1 b2]; simp
        · simp [b2]
      · rcases a4 with a4 | ⟨q, hq, e⟩
        · exact .inr ⟨p, by simp, a4.symm⟩
        · exact .inr ⟨q, by simp [hq], e⟩
    · rw [if_neg h1]
      by_cases h2 : cnt p = m
      · rw [if_pos h2]
        obtain ⟨M, a1, a2, a3, a4, a5⟩ := ih (out ++ [p]) m (fun x hx => by
          rcases List.mem_append.1 hx with hx | hx
          · exact h x hx
          · rw [List.mem_singleton.1 hx]; exact h2)
        refine ⟨M, a1, fun q hq => ?_, fun x hx => ?_, ?_, fun _ => a5 (.inl (by simp))⟩
        · rcases List.mem_cons.1 hq with rfl | hq
          · omega
          · exact a2 q hq
        · obtain ⟨b1, b2⟩ := a3 x hx
          refine ⟨b1, ?_⟩
          rcases b2 with b2 | b2
          · rcases List.mem_append.1 b2 with b2 | b2
            · exact .inl b2
            · rw [List.mem_singleton.1 b2]; exact .inr (by simp)
          · exact .inr (by simp [b2])
        · rcases a4 with a4 | ⟨q, hq, e⟩
          · exact .inl a4
          · exact .inr ⟨q, by simp [hq], e⟩
      · rw [if_neg h2]
        obtain ⟨M, a1, a2, a3, a4, a5⟩ := ih out m h
        refine ⟨M, a1, fun q hq => ?_, fun x hx => ?_, ?_, fun hh => a5 ?_⟩
        · rcases List.mem_cons.1 hq with rfl | hq
          · omega
          · exact a2 q hq
        · obtain ⟨b1, b2⟩ := a3 x hx
          exact ⟨b1, b2.imp_right fun b => by simp [b]⟩
        · rcases a4 with a4 | ⟨q, hq, e⟩
          · exact .inl a4
          · exact .inr ⟨q, by simp [hq], e⟩
        · rcases hh with hh | ⟨q, hq, e⟩
          · exact .inl hh
          · rcases List.mem_cons.1 hq with rfl | hq
            · omega
            · exact .inr ⟨q, hq, e⟩
theorem kp_hard {x y n : Int} (h3 : kAsk x y n = true) (H : List (List Int)) (hH : hardK x y n = (H, true)) : 1 ≤ H.length ∧ H.length ≤ 56 ∧ ∀ p ∈ H, ∃ u v, p = [u, v] ∧ impl_CountKindTests.f x y n u v = some (gI (kStart x y n), true) := by
  have hg := kAsk_good h3
  have hf := kAsk_low h3
  have hfl := kAsk_fl h3
  unfold hardK at hH
  rw [if_pos h3] at hH
  obtain ⟨rfl, _⟩ := Prod.mk.inj hH
  obtain ⟨cnt, hc⟩ : ∃ c : List Int → Int, c = fun p => ((playK x y n (p.getD 0 0) (p.getD 1 0)).length : Int) := ⟨_, rfl⟩
  rw [← hc]
  obtain ⟨M, a1, a2, a3, a4, a5⟩ := scan_spec cnt (pairsF n []) [] 0 (by simp)
  have hmem : ∀ p, p ∈ pairsF n [] ↔ ∃ u v, p = [u, v] ∧ 0 ≤ u ∧ u ≤ v ∧ v ≤ n := by
    intro p
    rw [pairsF_is, List.mem_map]
    constructor
    · rintro ⟨q, hq, rfl⟩
      exact ⟨q.1, q.2, rfl, (mem_allp hfl.1 q).1 (List.mem_filter.1 hq).1⟩
    · rintro ⟨u, v, rfl, hh⟩
      exact ⟨(u, v), List.mem_filter.2 ⟨(mem_allp hfl.1 _).2 hh, rfl⟩, rfl⟩
  have hcp : ∀ u v, cnt [u, v] = ((kPlay u v (kStart x y n).ms (kStart x y n)).length : Int) := fun u v => by rw [hc]; simp [playK]
  have hle : ∀ p ∈ pairsF n [], cnt p ≤ gI (kStart x y n) := fun p hp => by
    obtain ⟨u, v, rfl, _⟩ := (hmem p).1 hp
    rw [hcp]
    exact play_le u v _ _ hg.1 hf (Nat.le_refl _)
  obtain ⟨u0, v0, b1, b2, b3⟩ := play_max _ _ hg.1 hf (Nat.le_refl _)
  have hm0 : [u0, v0] ∈ pairsF n [] := (hmem _).2 ⟨u0, v0, rfl, by unfold KIn kStart at b1; simp only at b1; omega⟩
  have hM : M = gI (kStart x y n) := by
    have h1 := a2 _ hm0
    rw [hcp, b3] at h1
    have h2 := gI_lo (kStart x y n)
    rcases a4 with rfl | ⟨p, hp, e⟩
    · omega
    · have := hle p hp; omega
  refine ⟨?_, ?_, fun p hp => ?_⟩
  · have := a5 (.inr ⟨_, hm0, by rw [hcp]; omega⟩)
    have := List.length_pos_iff.2 this
    omega
  · have h1 : ∀ (l out : List (List Int)) (m : Int), (hardScan cnt l out m).length ≤ out.length + l.length := by
      intro l
      induction l with
      | nil => intro out m; simp [hardScan]
      | cons p l ih =>
        intro out m
        unfold hardScan
        split
        · have := ih [p] (cnt p); simp at this ⊢; omega
        · split
          · have := ih (out ++ [p]) m; simp at this ⊢; omega
          · have := ih out m; simp at this ⊢; omega
    have h2 := h1 (pairsF n []) [] 0
    have h3 := pairs0_len n hfl.1 hfl.2
    simp at h2
    omega
  · obtain ⟨c1, c2⟩ := a3 p hp
    rcases c2 with c2 | c2
    · cases c2
    · obtain ⟨u, v, rfl, d1, d2, d3⟩ := (hmem p).1 c2
      refine ⟨u, v, rfl, ?_⟩
      unfold impl_CountKindTests.f impl_PlayKinds.f
      have hpr : kPair n u v = true := decide_eq_true (by omega)
      rw [h3, hpr]
      simp only [Bool.and_self, if_true, Option.bind_some]
      rw [hcp] at c1
      rw [← hM, ← c1]
      unfold playK
      rw [List.length_map]
end Go.Proofs.Ytibapicnljedcab.Q
