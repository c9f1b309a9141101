/- Plain lemmas of this session: what the printed functions answer. -/
import Derived.Test.YtibapicnljedcabQx0
import Derived.Test.YtibapicnljedcabQx1
import Derived.Test.YtibapicnljedcabQx10
import Derived.Test.YtibapicnljedcabQx11
import Derived.Test.YtibapicnljedcabQx12
import Derived.Test.YtibapicnljedcabQx2
import Derived.Test.YtibapicnljedcabQx3
import Derived.Test.YtibapicnljedcabQx4
import Derived.Test.YtibapicnljedcabQx5
import Derived.Test.YtibapicnljedcabQx6
import Derived.Test.YtibapicnljedcabQx7
import Derived.Test.YtibapicnljedcabQx8
import Derived.Test.YtibapicnljedcabQx9
import Derived.Test.YtibapicnljedcabHw
import Derived.Test.YtibapicnljedcabQedraw
import Derived.Test.YtibapicnljedcabQefew
import Derived.Test.YtibapicnljedcabQeidle
namespace Go.Proofs.Ytibapicnljedcab.Q
open Go.RowKit Go.Proofs.YtibapicnljedcabW.PrintWords Go.Proofs.YtibapicnljedcabW.PrintLast Go.Proofs.YtibapicnljedcabW.PrintMore
set_option linter.unusedVariables false
set_option linter.unusedSimpArgs false
/-! ### Plays of two kinds, in plain Lean -/
def KIn (k : KS) (x y : Int) : Prop := k.a ≤ x ∧ x ≤ k.b ∧ k.c ≤ y ∧ y ≤ k.d
theorem aft_in {k : KS} (hk : KGood k) {t : Bool × Int} (ht : t ∈ k.tests) {br : Bool} {x y : Int} (hxy : x ≤ y) : KIn (k.aft t.1 br t.2) x y ↔ KIn k x y ∧ kBreaks t x y = br := by
  unfold KGood at hk
  obtain ⟨st, f⟩ := t
  rcases mem_tests ht with ⟨e, g1, g2, g3⟩ | ⟨e, g1, g2, g3⟩ <;> simp only at e g1 g2 g3 <;> subst e <;> cases br <;> simp only [KIn, KS.aft, KS.tight, kBreaks, if_true, if_false, Bool.false_eq_true, decide_eq_true_eq, decide_eq_false_iff_not] <;> omega
theorem kin_ex {k : KS} (hk : KGood k) : ∃ x y, KIn k x y ∧ x ≤ y := by
  unfold KGood at hk
  exact ⟨k.a, k.c, ⟨by omega, by omega, by omega, by omega⟩, by omega⟩
theorem play_le (wk st : Int) : ∀ (n : Nat) (k : KS), KGood k → gI k < 1000 → k.ms ≤ n → ((kPlay wk st n k).length : Int) ≤ gI k := by
  intro n
  induction n with
  | zero => intro k hk hf hn; have := gI_lo k; simpa [kPlay] using this
  | succ n ih =>
    intro k hk hf hn
    unfold kPlay
    split
    · have := gI_lo k; simpa using this
    · rename_i hd
      have hd' : k.done = false := by simpa using hd
      obtain ⟨h1, h2, h3⟩ := kFirst_aft hk hd' hf (kBreaks (kFirst k) wk st)
      have h4 := ih _ h1 h3 (by omega)
      have h5 := (kFirst_is hk hd' hf).2.1
      unfold gW at h5
      rw [List.length_cons]
      cases hb : kBreaks (kFirst k) wk st <;> rw [hb] at h4 <;> omega
theorem play_max : ∀ (n : Nat) (k : KS), KGood k → gI k < 1000 → k.ms ≤ n → ∃ x y, KIn k x y ∧ x ≤ y ∧ ((kPlay x y n k).length : Int) = gI k := by
  intro n
  induction n with
  | zero =>
    intro k hk hf hn
    have hd : k.done = true := (done_iff k).2 (by unfold KGood at hk; unfold KS.ms at hn; omega)
    obtain ⟨x, y, h1, h2⟩ := kin_ex hk
    exact ⟨x, y, h1, h2, by rw [gI_done hd]; rfl⟩
  | succ n ih =>
    intro k hk hf hn
    cases hd : k.done with
    | true =>
      obtain ⟨x, y, h1, h2⟩ := kin_ex hk
      refine ⟨x, y, h1, h2, ?_⟩
      unfold kPlay
      rw [hd, gI_done hd]; rfl
    | false =>
      obtain ⟨h1, h2, _⟩ := kFirst_is hk hd hf
      have key : ∀ br, gI (k.aft (kFirst k).1 br (kFirst k).2) + 1 = gI k → ∃ x y, KIn k x y ∧ x ≤ y ∧ ((kPlay x y (n + 1) k).length : Int) = gI k := by
        intro br hb
        obtain ⟨a1, a2, a3⟩ := kFirst_aft hk hd hf br
        obtain ⟨x, y, b1, b2, b3⟩ := ih _ a1 a3 (by omega)
        have c := (aft_in hk h1 b2).1 b1
        refine ⟨x, y, c.1, b2, ?_⟩
        unfold kPlay
        rw [hd, if_neg (by decide), List.length_cons, c.2]
        omega
      unfold gW at h2
      rcases Int.le_total (gI (k.aft (kFirst k).1 false (kFirst k).2)) (gI (k.aft (kFirst k).1 true (kFirst k).2)) with h | h
      · exact key true (by omega)
      · exact key false (by omega)
/-- A pair fits the answers of tests. -/
def kAll (L : List (Bool × Int × Bool)) (x y : Int) : Bool := L.all fun u => kBreaks (u.1, u.2.1) x y == u.2.2
/-- The state behind the first i tests of a play. -/
def kAt (wk st : Int) : Nat → KS → KS
  | 0, k => k
  | i + 1, k => if k.done then k else kAt wk st i (k.aft (kFirst k).1 (kBreaks (kFirst k) wk st) (kFirst k).2)
theorem kAt_in (wk st x y : Int) (hxy : x ≤ y) : ∀ (n i : Nat) (k : KS), KGood k → gI k < 1000 → k.ms ≤ n → (KIn (kAt wk st i k) x y ↔ KIn k x y ∧ kAll ((kPlay wk st n k).take i) x y = true) := by
  intro n
  induction n with
  | zero =>
    intro i k hk hf hn
    have hd : k.done = true := (done_iff k).2 (by unfold KGood at hk; unfold KS.ms at hn; omega)
    cases i with
    | zero => simp [kAt, kAll]
    | succ i => simp [kAt, hd, kPlay, kAll]
  | succ n ih =>
    intro i k hk hf hn
    cases i with
    | zero => simp [kAt, kAll]
    | succ i =>
      unfold kAt kPlay
      cases hd : k.done with
      | true => simp [kAll]
      | false =>
        rw [if_neg (by decide), if_neg (by decide), List.take_succ_cons]
        obtain ⟨a1, a2, a3⟩ := kFirst_aft hk hd hf (kBreaks (kFirst k) wk st)
        obtain ⟨h1, _, _⟩ := kFirst_is hk hd hf
        rw [ih i _ a1 a3 (by omega), aft_in hk h1 hxy]
        unfold kAll
        rw [List.all_cons, Bool.and_eq_true, beq_iff_eq]
        constructor
        · rintro ⟨⟨p, q⟩, r⟩; exact ⟨p, q, r⟩
        · rintro ⟨p, q, r⟩; exact ⟨⟨p, q⟩, r⟩
theorem kAt_self (wk st : Int) (h : wk ≤ st) : ∀ (i : Nat) (k : KS), KGood k → gI k < 1000 → KIn k wk st → KIn (kAt wk st i k) wk st := by
  intro i
  induction i with
  | zero => intro k _ _ hi; exact hi
  | succ i ih =>
    intro k hk hf hi
    unfold kAt
    split
    · exact hi
    · rename_i hd
      have hd' : k.done = false := by simpa using hd
      obtain ⟨a1, _, a3⟩ := kFirst_aft hk hd' hf (kBreaks (kFirst k) wk st)
      exact ih _ a1 a3 ((aft_in hk (kFirst_is hk hd' hf).1 h).2 ⟨hi, rfl⟩)
/-- Each test of a play leaves fewer pairs. -/
theorem kAt_less (wk st : Int) : ∀ (n i : Nat) (k : KS), KGood k → gI k < 1000 → k.ms ≤ n → i < (kPlay wk st n k).length → ∃ x y, x ≤ y ∧ KIn (kAt wk st i k) x y ∧ ¬ KIn (kAt wk st (i + 1) k) x y := by
  intro n
  induction n with
  | zero => intro i k _ _ _ h; simp [kPlay] at h
  | succ n ih =>
    intro i k hk hf hn hi
    cases hd : k.done with
    | true => unfold kPlay at hi; rw [hd] at hi; simp at hi
    | false =>
      obtain ⟨a1, a2, a3⟩ := kFirst_aft hk hd hf (kBreaks (kFirst k) wk st)
      obtain ⟨h1, _, _⟩ := kFirst_is hk hd hf
      have hu : ∀ j, kAt wk st (j + 1) k = kAt wk st j (k.aft (kFirst k).1 (kBreaks (kFirst k) wk st) (kFirst k).2) := fun j => by rw [kAt, hd, if_neg (by decide)]
      cases i with
      | zero =>
        obtain ⟨x, y, c1, c2⟩ := kin_ex (kFirst_aft hk hd hf (!kBreaks (kFirst k) wk st)).1
        have c := (aft_in hk h1 c2).1 c1
        refine ⟨x, y, c2, c.1, fun q => ?_⟩
        rw [hu 0] at q
        have q2 := (aft_in hk h1 c2).1 q
        rw [c.2] at q2
        have := q2.2
        cases hb : kBreaks (kFirst k) wk st <;> rw [hb] at this <;> cases this
      | succ i =>
        rw [hu (i + 1), hu i]
        refine ih i _ a1 a3 (by omega) ?_
        unfold kPlay at hi
        rw [hd, if_neg (by decide), List.length_cons] at hi
        omega
theorem kAt_end (wk st : Int) : ∀ (n : Nat) (k : KS), KGood k → gI k < 1000 → k.ms ≤ n → (kAt wk st n k).done = true := by
  intro n
  induction n with
  | zero => intro k hk _ hn; exact (done_iff k).2 (by unfold KGood at hk; unfold KS.ms at hn; omega)
  | succ n ih =>
    intro k hk hf hn
    unfold kAt
    cases hd : k.done with
    | true => simpa using hd
    | false =>
      rw [if_neg (by decide)]
      obtain ⟨a1, a2, a3⟩ := kFirst_aft hk hd hf (kBreaks (kFirst k) wk st)
      exact ih _ a1 a3 (by omega)
theorem play_settles (wk st : Int) (h : wk ≤ st) (n : Nat) (k : KS) (hk : KGood k) (hf : gI k < 1000) (hn : k.ms ≤ n) (hi : KIn k wk st) (x y : Int) (hxy : x ≤ y) : (KIn k x y ∧ kAll (kPlay wk st n k) x y = true) ↔ (x = wk ∧ y = st) := by
  have hlen : (kPlay wk st n k).length ≤ n := by
    clear hn hk hf hi
    induction n generalizing k with
    | zero => simp [kPlay]
    | succ n ih => unfold kPlay; split <;> simp <;> exact ih _
  have h1 := kAt_in wk st x y hxy n n k hk hf hn
  rw [List.take_of_length_le hlen] at h1
  rw [← h1]
  have hd := (done_iff _).1 (kAt_end wk st n k hk hf hn)
  have hs := kAt_self wk st h n k hk hf hi
  unfold KIn at hs ⊢
  omega
theorem aft_w (k : KS) (st br : Bool) (f : Int) : (k.aft st br f).w = if !st && br then k.w - 1 else k.w := by unfold KS.aft KS.tight; cases st <;> cases br <;> rfl
theorem aft_s (k : KS) (st br : Bool) (f : Int) : (k.aft st br f).s = if st && br then k.s - 1 else k.s := by unfold KS.aft KS.tight; cases st <;> cases br <;> rfl
/-- The eggs that break. -/
theorem play_eggs (wk st : Int) : ∀ (n : Nat) (k : KS), KGood k → gI k < 1000 → (((kPlay wk st n k).filter fun u => u.2.2 && !u.1).length : Int) ≤ k.w ∧ (((kPlay wk st n k).filter fun u => u.2.2 && u.1).length : Int) ≤ k.s := by
  intro n
  induction n with
  | zero => intro k hk _; unfold KGood at hk; simp [kPlay]; omega
  | succ n ih =>
    intro k hk hf
    unfold kPlay
    split
    · unfold KGood at hk; simp; omega
    · rename_i hd
      have hd' : k.done = false := by simpa using hd
      obtain ⟨a1, _, a3⟩ := kFirst_aft hk hd' hf (kBreaks (kFirst k) wk st)
      have h1 := ih _ a1 a3
      have hw := aft_w k (kFirst k).1 (kBreaks (kFirst k) wk st) (kFirst k).2
      have hs := aft_s k (kFirst k).1 (kBreaks (kFirst k) wk st) (kFirst k).2
      obtain ⟨Q, hQ⟩ : ∃ Q, Q = k.aft (kFirst k).1 (kBreaks (kFirst k) wk st) (kFirst k).2 := ⟨_, rfl⟩
      rw [← hQ] at h1 hw hs ⊢
      rw [hw, hs] at h1
      cases hb : kBreaks (kFirst k) wk st <;> cases he : (kFirst k).1 <;> rw [hb, he] at h1 <;> simp at h1 ⊢ <;> omega
/-- The weak break alone needs no more. -/
theorem weak_le : ∀ (n : Nat) (k : KS), KGood k → k.ms ≤ n → gJ k ≤ gI k := by
  intro n
  induction n with
  | zero =>
    intro k hk hn
    have hd : k.doneJ = true := (doneJ_iff k).2 (by unfold KGood at hk; unfold KS.ms at hn; omega)
    rw [gJ_done hd]; exact gI_lo k
  | succ n ih =>
    intro k hk hn
    cases hd : k.doneJ with
    | true => rw [gJ_done hd]; exact gI_lo k
    | false =>
      have hd2 : k.done = false := by
        cases hq : k.done with
        | false => rfl
        | true => rw [(doneJ_iff k).2 ((done_iff k).1 hq).1] at hd; cases hd
      rw [gJ_eq hk hd, gI_eq hk hd2]
      refine kFold_ge _ _ _ _ (kFold_le _ _ _).1 fun t ht => ?_
      have h1 := (kFold_le (gV k) kNever k.tests).2 t ht
      have a0 := aft_good hk ht false
      have a1 := aft_good hk ht true
      have i0 := ih _ a0.1 (by omega)
      have i1 := ih _ a1.1 (by omega)
      unfold gV at h1
      unfold gW
      unfold gV
      omega
theorem weak_reach : ∀ (t : Nat) (k : KS), KGood k → k.b - k.a ≤ reachAt t k.w.toNat → gJ k ≤ t := by
  intro t
  induction t with
  | zero =>
    intro k hk h
    have hd : k.doneJ = true := (doneJ_iff k).2 (by unfold KGood at hk; simp [reachAt] at h; omega)
    rw [gJ_done hd]; omega
  | succ t ih =>
    intro k hk h
    cases hd : k.doneJ with
    | true => rw [gJ_done hd]; omega
    | false =>
      have hne : k.a ≠ k.b := fun e => by rw [(doneJ_iff k).2 e] at hd; cases hd
      have hk' := hk
      unfold KGood at hk'
      obtain ⟨w, hw⟩ : ∃ w : Nat, k.w = (w : Int) := ⟨k.w.toNat, by omega⟩
      rw [hw, Int.toNat_natCast] at h
      cases w with
      | zero => simp [reachAt] at h; omega
      | succ w =>
        unfold reachAt at h
        have hm := reachAt_lo t w
        have hm2 := reachAt_lo t (w + 1)
        obtain ⟨r, hr⟩ : ∃ r, r = min (reachAt t w) (k.b - k.a - 1) := ⟨_, rfl⟩
        have ht : (false, k.a + 1 + r) ∈ k.tests := tests_weak (by omega) (by omega) (by omega)
        rw [gJ_eq hk hd]
        have h1 := (kFold_le (gV k) kNever k.tests).2 _ ht
        have a0 := (aft_good hk ht false).1
        have a1 := (aft_good hk ht true).1
        have e2 : gV k (false, k.a + 1 + r) = 1 + max (gJ (k.aft false false (k.a + 1 + r))) (gJ (k.aft false true (k.a + 1 + r))) := rfl
        have i0 : gJ (k.aft false false (k.a + 1 + r)) ≤ t := ih _ a0 (by
          simp only [KS.aft, KS.tight, Bool.false_eq_true, if_false, hw, Int.toNat_natCast]
          omega)
        have i1 : gJ (k.aft false true (k.a + 1 + r)) ≤ t := ih _ a1 (by
          simp only [KS.aft, KS.tight, Bool.false_eq_true, if_false, if_true, hw]
          rw [show ((w + 1 : Nat) : Int) - 1 = (w : Int) by omega, Int.toNat_natCast]
          omega)
        rw [e2] at h1
        omega
end Go.Proofs.Ytibapicnljedcab.Q
