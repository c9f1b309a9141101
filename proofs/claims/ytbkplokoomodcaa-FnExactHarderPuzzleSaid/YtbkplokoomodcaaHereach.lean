/- Plain lemmas of this session: what the printed functions answer. -/
import Derived.Test.YtbkplokoomodcaaHx0
import Derived.Test.YtbkplokoomodcaaHx1
import Derived.Test.YtbkplokoomodcaaHx2
import Derived.Test.YtbkplokoomodcaaHx3
import Derived.Test.YtbkplokoomodcaaHx4
import Derived.Test.YtbkplokoomodcaaHx5
import Derived.Test.YtbkplokoomodcaaHx6
import Derived.Test.YtbkplokoomodcaaHx7
import Derived.Test.YtbkplokoomodcaaHx8
import Derived.Test.YtbkplokoomodcaaHx9
import Derived.Test.YtbkplokoomodcaaHw
namespace Go.Proofs.Ytbkplokoomodcaa.H
open Go.RowKit Go.Proofs.YtbkplokoomodcaaW.PrintWords Go.Proofs.YtbkplokoomodcaaW.PrintLast Go.Proofs.YtbkplokoomodcaaW.PrintMore
set_option linter.unusedVariables false
set_option linter.unusedSimpArgs false
/-! The reference's reaches, fewest tests and plays are those of the program. -/
def mrow (t E e : Nat) : List Int := (List.range (E + 1)).map fun j => if j ≤ e then reachAt t j else reachAt (t + 1) j
theorem mrow_len (t E e : Nat) : (mrow t E e).length = E + 1 := by simp [mrow]
theorem mrow_get (t E e j : Nat) (h : j ≤ E) : rd (mrow t E e) (j : Int) = if j ≤ e then reachAt t j else reachAt (t + 1) j := by
  have h2 : j < (mrow t E e).length := by rw [mrow_len]; omega
  simp only [rd, Int.toNat_natCast]
  rw [List.getD_eq_getElem?_getD, List.getElem?_eq_getElem h2, Option.getD_some]
  simp [mrow]
theorem reachAt_z (t : Nat) : reachAt t 0 = 0 := by cases t <;> simp [reachAt]
theorem mrow_zero (t E : Nat) : mrow t E 0 = mrow (t + 1) E E := by
  unfold mrow
  apply List.map_congr_left
  intro j hj
  have : j ≤ E := by have := List.mem_range.1 hj; omega
  rw [if_pos this]
  split
  · have : j = 0 := by omega
    subst this; rw [reachAt_z, reachAt_z]
  · rfl
theorem mrow_set (t E e : Nat) (h : e + 1 ≤ E) : (mrow t E (e + 1)).set (e + 1) (reachAt (t + 1) (e + 1)) = mrow t E e := by
  apply List.ext_getElem
  · rw [List.length_set, mrow_len, mrow_len]
  · intro j h1 h2
    rw [mrow_len] at h2
    rw [List.getElem_set]
    split
    · rename_i h3; subst h3; simp [mrow]; omega
    · rename_i h3
      simp only [mrow, List.getElem_map, List.getElem_range]
      by_cases h4 : j ≤ e
      · rw [if_pos (by omega), if_pos h4]
      · rw [if_neg (by omega), if_neg h4]
theorem mrow_start (E : Nat) : List.replicate (E + 1) 0 = mrow 0 E E := by
  apply List.ext_getElem
  · simp [mrow_len]
  · intro j h1 h2
    rw [mrow_len] at h2
    simp only [List.getElem_replicate, mrow, List.getElem_map, List.getElem_range]
    rw [if_pos (by omega)]; simp [reachAt]
theorem l1Least_some (a b : Int) : spec_l1Least.f a b = some (min a b) := by
  unfold spec_l1Least.f; split <;> (congr 1; omega)
theorem step_val (t e : Nat) : min (wrap64 (wrap64 (reachAt t e + reachAt t (e + 1)) + 1)) 1000000001 = reachAt (t + 1) (e + 1) := by
  have := reachAt_lo t e; have := reachAt_lo t (e + 1); have := reachAt_hi t e; have := reachAt_hi t (e + 1)
  rw [Hw.wrap_id (i := reachAt t e + reachAt t (e + 1)) (by omega) (by omega), Hw.wrap_id (by omega) (by omega), reachAt.eq_3]
  omega
theorem flReach_l1 (E : Nat) (hE : E ≤ 10) (x1 : Int) (t : Nat) (ht : t ≤ 100000) (n e : Nat) (he : e ≤ E) : spec_flReach.l1 (n + e + 1) E x1 (mrow t E e) t e = spec_flReach.l0 n E x1 (mrow (t + 1) E E) ((t : Int) + 1) := by
  induction e with
  | zero =>
    rw [spec_flReach.l1, if_neg (by omega), mrow_zero, Hw.wrap_id (by omega) (by omega)]
  | succ e ih =>
    have h1 := mrow_get t E (e + 1) e (by omega)
    have h2 := mrow_get t E (e + 1) (e + 1) (by omega)
    rw [if_pos (by omega)] at h1 h2
    have hw : wrap64 (((e + 1 : Nat) : Int) - 1) = (e : Int) := by rw [Hw.wrap_id (by omega) (by omega)]; omega
    rw [show n + (e + 1) + 1 = (n + e + 1) + 1 by omega, spec_flReach.l1, hw, mrow_len, if_pos (by omega), if_pos (by omega), if_pos (by omega), if_pos (by omega), if_pos (by omega), h1, h2, l1Least_some, step_val, Int.toNat_natCast, Option.bind_some, mrow_set t E e he]
    exact ih (by omega)
theorem flReach_l0 (E : Nat) (hE : E ≤ 10) (T : Nat) (hT : T ≤ 100000) (d t n : Nat) (ht : t + d = T) : spec_flReach.l0 (n + d * (E + 2) + 1) E T (mrow t E E) t = some (reachAt T E) := by
  induction d generalizing t with
  | zero =>
    have : t = T := by omega
    subst this
    rw [spec_flReach.l0, if_neg (by omega), mrow_len, if_pos (by omega), if_pos (by omega), mrow_get _ _ _ _ (Nat.le_refl _), if_pos (Nat.le_refl _)]
  | succ d ih =>
    rw [spec_flReach.l0, if_pos (by omega), show n + (d + 1) * (E + 2) = (n + d * (E + 2) + 1) + E + 1 by rw [Nat.add_mul]; omega, flReach_l1 E hE T t (by omega) _ E (Nat.le_refl _)]
    exact ih (t + 1) (by omega)
theorem flReach_some (E T : Nat) (hE : E ≤ 10) (hT : T ≤ 1000) (k : Nat) (hk : 12001 ≤ k) : spec_flReach.f k E T = some (reachAt T E) := by
  unfold spec_flReach.f
  rw [Hw.wrap_id (by omega) (by omega), if_pos (by omega), if_pos (by omega), show ((E : Int) + 1).toNat = E + 1 by omega, mrow_start]
  have h2 : T * (E + 2) ≤ 12000 := Nat.le_trans (Nat.mul_le_mul hT (show E + 2 ≤ 12 by omega)) (by omega)
  have h1 := flReach_l0 E hE T (by omega) T 0 (k - 1 - T * (E + 2)) (by omega)
  rw [show k - 1 - T * (E + 2) + T * (E + 2) + 1 = k by omega] at h1
  exact h1
theorem flFew_l1 (E : Nat) (hE : E ≤ 10) (x1 : Int) (t : Nat) (ht : t ≤ 100000) (n e : Nat) (he : e ≤ E) : spec_flFew.l1 (n + e + 1) E x1 (mrow t E e) t e = spec_flFew.l0 n E x1 (mrow (t + 1) E E) ((t : Int) + 1) := by
  induction e with
  | zero =>
    rw [spec_flFew.l1, if_neg (by omega), mrow_zero, Hw.wrap_id (by omega) (by omega)]
  | succ e ih =>
    have h1 := mrow_get t E (e + 1) e (by omega)
    have h2 := mrow_get t E (e + 1) (e + 1) (by omega)
    rw [if_pos (by omega)] at h1 h2
    have hw : wrap64 (((e + 1 : Nat) : Int) - 1) = (e : Int) := by rw [Hw.wrap_id (by omega) (by omega)]; omega
    rw [show n + (e + 1) + 1 = (n + e + 1) + 1 by omega, spec_flFew.l1, hw, mrow_len, if_pos (by omega), if_pos (by omega), if_pos (by omega), if_pos (by omega), if_pos (by omega), h1, h2, l1Least_some, step_val, Int.toNat_natCast, Option.bind_some, mrow_set t E e he]
    exact ih (by omega)
theorem few_before (e : Nat) (fl : Int) (t : Nat) (h : t < few e fl) : reachAt t e < fl := by
  have key : ∀ n s, s ≤ t → t < fewFrom e fl s n → reachAt t e < fl := by
    intro n
    induction n with
    | zero => intro s h1 h2; unfold fewFrom at h2; omega
    | succ n ih =>
      intro s h1 h2
      unfold fewFrom at h2
      split at h2
      · omega
      · rename_i h3
        rcases Nat.lt_or_ge s t with h4 | h4
        · exact ih (s + 1) (by omega) h2
        · have : s = t := by omega
          subst this; omega
  exact key 1000 0 (Nat.zero_le _) h
theorem reachAt_ge (t e : Nat) (ht : t ≤ 1000) : (t : Int) ≤ reachAt t (e + 1) := by
  induction t with
  | zero => simp [reachAt]
  | succ t ih => have := ih (by omega); have := reachAt_lo t e; rw [reachAt.eq_3]; omega
theorem few_at (e : Nat) (fl : Int) (hfl : fl ≤ 1000) : fl ≤ reachAt (few (e + 1) fl) (e + 1) := by
  have key : ∀ n s, s + n = 1000 → fl ≤ reachAt (fewFrom (e + 1) fl s n) (e + 1) := by
    intro n
    induction n with
    | zero => intro s h1; unfold fewFrom; have := reachAt_ge s e (by omega); omega
    | succ n ih =>
      intro s h1
      unfold fewFrom
      split
      · assumption
      · exact ih (s + 1) (by omega)
  exact key 1000 0 (by omega)
theorem flFew_l0 (E : Nat) (hE : E ≤ 10) (hE0 : 1 ≤ E) (fl : Int) (hfl : fl ≤ 1000) (d t n : Nat) (ht : t + d = few E fl) : spec_flFew.l0 (n + d * (E + 2) + 1) E fl (mrow t E E) t = some (few E fl : Int) := by
  have hfh := few_hi E fl
  induction d generalizing t with
  | zero =>
    have : t = few E fl := by omega
    obtain ⟨e, rfl⟩ : ∃ e, E = e + 1 := ⟨E - 1, by omega⟩
    rw [spec_flFew.l0, mrow_len, if_pos (by omega), if_pos (by omega), mrow_get _ _ _ _ (Nat.le_refl _), if_pos (Nat.le_refl _), if_neg (by rw [this]; have := few_at e fl hfl; omega), this]
  | succ d ih =>
    rw [spec_flFew.l0, mrow_len, if_pos (by omega), if_pos (by omega), mrow_get _ _ _ _ (Nat.le_refl _), if_pos (Nat.le_refl _), if_pos (few_before E fl t (by omega)), show n + (d + 1) * (E + 2) = (n + d * (E + 2) + 1) + E + 1 by rw [Nat.add_mul]; omega, flFew_l1 E hE fl t (by omega) _ E (Nat.le_refl _)]
    exact ih (t + 1) (by omega)
theorem flFew_some (E : Nat) (fl : Int) (hE0 : 1 ≤ E) (hE : E ≤ 10) (hfl : fl ≤ 1000) (k : Nat) (hk : 12001 ≤ k) : spec_flFew.f k E fl = some (few E fl : Int) := by
  unfold spec_flFew.f
  rw [Hw.wrap_id (by omega) (by omega), if_pos (by omega), if_pos (by omega), show ((E : Int) + 1).toNat = E + 1 by omega, mrow_start]
  have h2 : few E fl * (E + 2) ≤ 12000 := Nat.le_trans (Nat.mul_le_mul (few_hi E fl) (show E + 2 ≤ 12 by omega)) (by omega)
  have h1 := flFew_l0 E hE hE0 fl hfl (few E fl) 0 (k - 1 - few E fl * (E + 2)) (by omega)
  rw [show k - 1 - few E fl * (E + 2) + few E fl * (E + 2) + 1 = k by omega] at h1
  exact h1
theorem flGood_l0 (E : Nat) (x1 b a : Int) (hx0 : 0 ≤ x1) (hx1 : x1 ≤ 1000) (n f : Nat) (acc : List Int) (hf : 1 ≤ f) (hn : (f : Int) + n = x1 + 1) (hacc : acc.length ≤ f) : ∃ tl, spec_flGood.l0 (n + 1) x1 b a acc f = some (acc ++ tl) ∧ (∀ g : Int, f ≤ g → g ≤ x1 → g - 1 ≤ b → x1 - g ≤ a → (∀ h : Int, f ≤ h → h < g → ¬ (h - 1 ≤ b ∧ x1 - h ≤ a)) → ∃ tl', tl = g :: tl') := by
  induction n generalizing f acc with
  | zero =>
    refine ⟨[], ?_, fun g h1 h2 => by omega⟩
    rw [spec_flGood.l0, if_neg (by omega), List.append_nil]
  | succ n ih =>
    have hw1 : wrap64 ((f : Int) - 1) = f - 1 := Hw.wrap_id (by omega) (by omega)
    have hw2 : wrap64 (x1 - (f : Int)) = x1 - f := Hw.wrap_id (by omega) (by omega)
    have hw3 : wrap64 ((f : Int) + 1) = ((f + 1 : Nat) : Int) := by rw [Hw.wrap_id (by omega) (by omega)]; omega
    rw [spec_flGood.l0, if_pos (by omega), hw1, hw2, hw3]
    by_cases h1 : (f : Int) - 1 ≤ b
    · rw [if_pos (by omega)]
      by_cases h2 : x1 - (f : Int) ≤ a
      · rw [if_pos (by omega), if_pos (by omega)]
        obtain ⟨tl, ht, _⟩ := ih (f + 1) (acc ++ [(f : Int)]) (by omega) (by omega) (by rw [List.length_append, List.length_singleton]; omega)
        refine ⟨f :: tl, by rw [ht]; simp, fun g g1 g2 g3 g4 g5 => ?_⟩
        rcases Int.lt_or_le f g with h | h
        · exact absurd ⟨h1, h2⟩ (g5 f (Int.le_refl _) h)
        · exact ⟨tl, by rw [show g = (f : Int) by omega]⟩
      · rw [if_neg (by omega)]
        obtain ⟨tl, ht, hh⟩ := ih (f + 1) acc (by omega) (by omega) (by omega)
        refine ⟨tl, ht, fun g g1 g2 g3 g4 g5 => hh g ?_ g2 g3 g4 (fun h h1_ h2_ => g5 h (by omega) h2_)⟩
        have : g ≠ f := by intro h; subst h; exact h2 g4
        omega
    · rw [if_neg (by omega)]
      obtain ⟨tl, ht, hh⟩ := ih (f + 1) acc (by omega) (by omega) (by omega)
      refine ⟨tl, ht, fun g g1 g2 g3 g4 g5 => hh g ?_ g2 g3 g4 (fun h h1_ h2_ => g5 h (by omega) h2_)⟩
      have : g ≠ f := by intro h; subst h; exact h1 g3
      omega
theorem flGood_mono_n (x1 b a : Int) (acc : List Int) (f : Int) (r : List Int) (k n : Nat) (h : spec_flGood.l0 k x1 b a acc f = some r) : spec_flGood.l0 (k + n) x1 b a acc f = some r := by
  induction n with
  | zero => exact h
  | succ n ih => exact spec_flGood.mono_l (k + n) _ _ _ _ _ _ ih
theorem flGood_some (E : Nat) (fl : Int) (hE0 : 1 ≤ E) (hE : E ≤ 10) (hf0 : 0 < fl) (hfl : fl ≤ 1000) (k : Nat) (hk : 12001 ≤ k) : ∃ tl, spec_flGood.f k E fl = some (bestF E fl :: tl) := by
  have h1 := few_pos E fl hf0
  have h2 := few_hi E fl
  obtain ⟨e, rfl⟩ : ∃ e, E = e + 1 := ⟨E - 1, by omega⟩
  obtain ⟨t, ht⟩ : ∃ t, few (e + 1) fl = t + 1 := ⟨few (e + 1) fl - 1, by omega⟩
  unfold spec_flGood.f
  rw [flFew_some (e + 1) fl hE0 hE hfl k hk, Option.bind_some, Hw.wrap_id (i := ((e + 1 : Nat) : Int) - 1) (by omega) (by omega), Hw.wrap_id (by omega) (by omega), show ((e + 1 : Nat) : Int) - 1 = (e : Int) by omega, ht, show ((t + 1 : Nat) : Int) - 1 = (t : Int) by omega,
    flReach_some e t (by omega) (by omega) k hk, Option.bind_some, flReach_some (e + 1) t hE (by omega) k hk, Option.bind_some]
  obtain ⟨tl, h3, h4⟩ := flGood_l0 (e + 1) fl (reachAt t e) (reachAt t (e + 1)) (by omega) hfl fl.toNat 1 [] (by omega) (by omega) (by simp)
  have h5 := flGood_mono_n _ _ _ _ _ _ _ (k - (fl.toNat + 1)) h3
  rw [show fl.toNat + 1 + (k - (fl.toNat + 1)) = k by omega] at h5
  have hb : bestF (e + 1) fl = max 1 (fl - reachAt t (e + 1)) := by unfold bestF; rw [ht]; rfl
  have h6 := few_at e fl hfl
  rw [ht, reachAt.eq_3] at h6
  have h7 := reachAt_lo t (e + 1)
  have h8 := reachAt_lo t e
  obtain ⟨tl', h9⟩ := h4 (bestF (e + 1) fl) (by rw [hb]; omega) (by rw [hb]; omega) (by rw [hb]; omega) (by rw [hb]; omega) (fun h i1 i2 i3 => by rw [hb] at i2; omega)
  exact ⟨tl', by rw [← h9]; simpa using h5⟩
theorem flPlay_l0 (br : Int) (k0 : Nat) (hk0 : 12001 ≤ k0) (n : Nat) (e lo hi : Int) (acc : List S121) (h0 : 0 ≤ lo) (h1 : lo ≤ hi) (h2 : hi ≤ 1000) (h3 : hi - lo ≤ n) (h4 : lo < hi → 1 ≤ e) (h5 : 0 ≤ e) (h6 : e ≤ 10) (ha : acc.length + n ≤ 1000) :
    spec_flPlay.l0 (k0 + n + 1) e br lo hi acc = some (acc ++ playL br n e lo (hi - lo)) := by
  induction n generalizing e lo hi acc with
  | zero => rw [spec_flPlay.l0, if_neg (by omega), playL, List.append_nil]
  | succ n ih =>
    rw [spec_flPlay.l0]
    by_cases hlt : lo < hi
    · rw [if_pos hlt, Hw.wrap_id (i := hi - lo) (by omega) (by omega)]
      have g1 := h4 hlt
      obtain ⟨E, rfl⟩ : ∃ E : Nat, e = (E : Int) := ⟨e.toNat, by omega⟩
      obtain ⟨tl, ht⟩ := flGood_some E (hi - lo) (by omega) (by omega) (by omega) (by omega) (k0 + (n + 1)) (by omega)
      have b1 := bestF_lo E (hi - lo)
      have b2 := bestF_hi E (hi - lo) (by omega)
      have b3 : (E : Int) = 1 → bestF E (hi - lo) = 1 := fun h => by rw [show E = 1 by omega]; exact bestF_one _ (by omega) (by omega)
      have hr : rd (bestF E (hi - lo) :: tl) 0 = bestF E (hi - lo) := by simp [rd]
      rw [ht, Option.bind_some, if_pos (by simp only [List.length_cons]; omega), if_pos (by omega), hr, Option.bind_some, playL, if_pos (show 0 < hi - lo by omega), Int.toNat_natCast]
      obtain ⟨f, hf⟩ : ∃ f, bestF E (hi - lo) = f := ⟨_, rfl⟩
      rw [hf] at b1 b2 b3 ⊢
      rw [Hw.wrap_id (i := lo + f) (by omega) (by omega)]
      by_cases hc : br < lo + f
      · rw [if_pos (by omega), if_pos hc, Hw.wrap_id (i := (E : Int) - 1) (by omega) (by omega), Hw.wrap_id (i := lo + f - 1) (by omega) (by omega)]
        have := ih ((E : Int) - 1) lo (lo + f - 1) (acc ++ [⟨lo + f, decide (lo + f > br)⟩]) h0 (by omega) (by omega) (by omega) (by omega) (by omega) (by omega) (by rw [List.length_append, List.length_singleton]; omega)
        rw [show lo + f - 1 - lo = f - 1 by omega] at this
        rw [show k0 + (n + 1) = k0 + n + 1 by omega, this, List.append_assoc]
        rfl
      · rw [if_neg (by omega), if_neg hc]
        have := ih (E : Int) (lo + f) hi (acc ++ [⟨lo + f, decide (lo + f > br)⟩]) (by omega) (by omega) (by omega) (by omega) (by omega) (by omega) (by omega) (by rw [List.length_append, List.length_singleton]; omega)
        rw [show hi - (lo + f) = hi - lo - f by omega] at this
        rw [show k0 + (n + 1) = k0 + n + 1 by omega, this, List.append_assoc]
        rfl
    · rw [if_neg hlt, playL_done _ _ _ _ _ (by omega), List.append_nil]
theorem flPlay_some (e fl br : Int) (he0 : 1 ≤ e) (he1 : e ≤ 10) (hf0 : 0 ≤ fl) (hf1 : fl ≤ 1000) (k : Nat) (hk : 14000 ≤ k) : spec_flPlay.f k e fl br = some (playL br fl.toNat e 0 fl) := by
  unfold spec_flPlay.f
  have := flPlay_l0 br (k - (fl.toNat + 1)) (by omega) fl.toNat e 0 fl [] (by omega) (by omega) (by omega) (by omega) (by omega) (by omega) (by omega) (by simp; omega)
  rw [show k - (fl.toNat + 1) + fl.toNat + 1 = k by omega] at this
  simpa using this
theorem flBroken_l (l : List S121) (hl : l.length ≤ 1000000) (m n i : Nat) (x : Int) (hi : i + n = l.length) (hx0 : 0 ≤ x) (hx1 : x + n ≤ 1000000) : spec_flBroken.l0 (m + n + 1) x l (l.length : Int) (i : Int) = some (x + brokenN (l.drop i)) := by
  induction n generalizing i x with
  | zero =>
    rw [spec_flBroken.l0, if_neg (by omega), List.drop_of_length_le (by omega)]
    simp [brokenN]
  | succ n ih =>
    have hlt : i < l.length := by omega
    have hr : rd_T121 l (i : Int) = l[i] := by simp [rd_T121, hlt]
    rw [spec_flBroken.l0, if_pos (by omega), if_pos (by omega), if_pos (by omega), hr, List.drop_eq_getElem_cons hlt, brokenN_cons, Hw.wrap_id (by omega) (by omega), Hw.wrap_id (by omega) (by omega)]
    have h1 := ih (i + 1) (x + 1) (by omega) (by omega) (by omega)
    have h2 := ih (i + 1) x (by omega) (by omega) (by omega)
    simp only [Int.natCast_add, Int.natCast_one] at h1 h2
    rw [show m + (n + 1) = m + n + 1 by omega]
    split
    · rename_i h; rw [h1]; congr 1; simp [h]; omega
    · rename_i h; rw [h2]; congr 1; simp [h]
theorem flBroken_some (l : List S121) (hl : l.length ≤ 1000) (k : Nat) (hk : 1001 ≤ k) : spec_flBroken.f k l = some (brokenN l : Int) := by
  have := flBroken_l l (by omega) (k - l.length - 1) l.length 0 0 (by omega) (by omega) (by omega)
  rw [show k - l.length - 1 + l.length + 1 = k by omega] at this
  simpa [spec_flBroken.f] using this
theorem pzValue_some (fl kd a br : Int) (hk : okA fl kd a) (hf0 : 0 ≤ fl) (hf1 : fl ≤ 1000) (hb0 : 0 ≤ br) (hb1 : br ≤ fl) (k : Nat) (h : 14000 ≤ k) : spec_pzValue.f k fl kd a br = some (asHasV fl kd a br) := by
  obtain ⟨k0, k1, k2, k3, k4⟩ := hk
  unfold spec_pzValue.f asHasV
  by_cases h0 : kd = 0
  · rw [if_pos h0, if_pos h0]
    by_cases hc : br < a
    · rw [if_pos hc, if_pos hc]
    · rw [if_neg hc, if_neg hc]
  · rw [if_neg h0, if_neg h0]
    by_cases h1 : kd = 1
    · rw [if_pos h1, if_pos h1, if_neg (by have := k2 h1; omega)]
    · rw [if_neg h1, if_neg h1]
      by_cases h2 : kd = 2
      · obtain ⟨q0, q1⟩ := k3 (.inl h2)
        rw [if_pos h2, if_pos h2, flPlay_some a fl br q0 q1 hf0 hf1 k h]
        rfl
      · rw [if_neg h2, if_neg h2]
        by_cases h3 : kd = 3
        · obtain ⟨q0, q1⟩ := k3 (.inr h3)
          rw [if_pos h3, if_pos h3, flPlay_some a fl br q0 q1 hf0 hf1 k h, Option.bind_some, flBroken_some _ (by have := playL_len br fl.toNat a 0 fl; omega) k (by omega)]
          rfl
        · rw [if_neg h3, if_neg h3]
          obtain ⟨q0, q1⟩ := k4 (by omega)
          unfold spec_l1Abs.f spec_l1Most.f
          rw [Hw.wrap_id (i := br - a) (by omega) (by omega), Hw.wrap_id (i := -(br - a)) (by omega) (by omega)]
          split
          · rw [Option.bind_some, Option.bind_some]; congr 1; omega
          · rw [Option.bind_some, Option.bind_some]; congr 1; omega
end Go.Proofs.Ytbkplokoomodcaa.H
