/- Plain Lean functions with the answers of Go functions, and proofs of it: printed by a program of this session (pr.py) over the kit's print, with hand-written parts. -/
import Derived.Test.YtoomacelbhojhaaUx0
import Derived.Test.YtoomacelbhojhaaUx2
import Derived.Test.YtoomacelbhojhaaUx3
import Derived.Test.YtoomacelbhojhaaUx4
import Derived.Test.YtoomacelbhojhaaUx5
import Derived.Test.YtoomacelbhojhaaUx6
namespace Go.Proofs.Ytoomacelbhojhaa.U
open Go.RowKit Go.Proofs.YtoomacelbhojhaaW.PrintWords Go.Proofs.YtoomacelbhojhaaW.PrintLast Go.Proofs.YtoomacelbhojhaaW.PrintMore
attribute [local go_sem] max2_int min2_int max_two min_two max_three min_three max_four min_four   -- for this text's walks alone
set_option linter.unusedVariables false
set_option linter.unusedSimpArgs false

-- FOR spec.hoDrops
-- CALLS (impl.village).parts ; (impl.houser).good ; spec.hoNeeded ; spec.hoPlace ; spec.hoWith ; spec.l1Own ; spec.l1Least ; spec.l1Most ; spec.hoTable ; impl.villageOf ; impl.isStocked ; spec.hoAsked ; impl.AreHouses ; impl.within ; impl.eggsNeeded ; spec.l1In ; spec.l1All ; spec.hoGood
-- USES kd [][]int
/-! ### The reference's table for houses -/
def sH (v : VS) : Int := min 1000 (hI v)
def sHW (v : VS) (t : Nat × Int) : Int := min 1000 (hWt v t)
theorem sH_lo (v : VS) : 0 ≤ sH v := by unfold sH; have := hI_lo v; omega
theorem sH_hi (v : VS) : sH v ≤ 1000 := by unfold sH; omega
theorem sHW_lo (v : VS) (t : Nat × Int) : 1 ≤ sHW v t := by unfold sHW; have := hWt_lo v t; omega
theorem sHW_hi (v : VS) (t : Nat × Int) : sHW v t ≤ 1000 := by unfold sHW; omega
theorem sHW_is (v : VS) (t : Nat × Int) : sHW v t = min 1000 (1 + max (sH (v.brk t.1 t.2)) (sH (v.whl t.1 t.2))) := by unfold sHW hWt sH; omega
theorem vFold_cap (g : Nat × Int → Int) (l : List (Nat × Int)) : ∀ z y : Int, min 1000 z = y → vFold (fun t => min 1000 (g t)) y l = min 1000 (vFold g z l) := by
  induction l with
  | nil => intro z y h; exact h.symm
  | cons t l ih =>
    intro z y h
    unfold vFold
    rw [List.foldl_cons, List.foldl_cons]
    exact ih (min z (g t)) (min y (min 1000 (g t))) (by omega)
theorem sH_fold {v : VS} (hv : VOk v) : vFold (sHW v) 1000 (vFrom v 0) = sH v := by
  unfold sH
  rw [hI_eq hv]
  exact vFold_cap (hWt v) _ vNever 1000 (by decide)
theorem sH_zero {v : VS} (h : v.need = 0) : sH v = 0 := by unfold sH; rw [hI_zero h]; rfl
theorem sH_never {v : VS} (hv : VGood v) (h : v.need ≠ 0) (h2 : v.e < v.need) : sH v = 1000 := by unfold sH; rw [hI_never hv h h2]; rfl
def LGood (l : List Int) : Prop := 1 ≤ l.length ∧ l.length ≤ 3 ∧ ∀ x ∈ l, 0 ≤ x ∧ x ≤ 8
theorem lcases {l : List Int} (h : 1 ≤ l.length ∧ l.length ≤ 3) : (∃ a, l = [a]) ∨ (∃ a b, l = [a, b]) ∨ ∃ a b c, l = [a, b, c] := by
  match l, h with
  | [a], _ => exact .inl ⟨a, rfl⟩
  | [a, b], _ => exact .inr (.inl ⟨a, b, rfl⟩)
  | [a, b, c], _ => exact .inr (.inr ⟨a, b, c, rfl⟩)
  | a :: b :: c :: d :: l, h => simp at h
theorem vOf_good {e : Int} {l : List Int} (h : LGood l) (he : 0 ≤ e ∧ e ≤ 6) : VGood (vOf e l) := by
  obtain ⟨h1, h2, h3⟩ := h
  rcases lcases ⟨h1, h2⟩ with ⟨a, rfl⟩ | ⟨a, b, rfl⟩ | ⟨a, b, c, rfl⟩
  · have := h3 a (by simp)
    simp [VGood, vOf]
    omega
  · have := h3 a (by simp)
    have := h3 b (by simp)
    simp [VGood, vOf]
    omega
  · have := h3 a (by simp)
    have := h3 b (by simp)
    have := h3 c (by simp)
    simp [VGood, vOf]
    omega
theorem vOf_get (e : Int) (l : List Int) {h : Nat} (hh : h < 3) : (vOf e l).get h = l.getD h 0 := by
  rcases (by omega : h = 0 ∨ h = 1 ∨ h = 2) with rfl | rfl | rfl <;> simp [vOf, VS.get]
theorem vOf_brk (e : Int) {l : List Int} {h : Nat} (f : Int) (hl : l.length ≤ 3) (hh : h < l.length) : vOf (e - 1) (l.set h (f - 1)) = (vOf e l).brk h f := by
  rcases lcases ⟨by omega, hl⟩ with ⟨a, rfl⟩ | ⟨a, b, rfl⟩ | ⟨a, b, c, rfl⟩
  · obtain rfl : h = 0 := by simp at hh; omega
    rfl
  · rcases (by simp at hh; omega : h = 0 ∨ h = 1) with rfl | rfl <;> rfl
  · rcases (by simp at hh; omega : h = 0 ∨ h = 1 ∨ h = 2) with rfl | rfl | rfl <;> rfl
theorem vOf_whl (e : Int) {l : List Int} {h : Nat} (f : Int) (hl : l.length ≤ 3) (hh : h < l.length) : vOf e (l.set h (l.getD h 0 - f)) = (vOf e l).whl h f := by
  rcases lcases ⟨by omega, hl⟩ with ⟨a, rfl⟩ | ⟨a, b, rfl⟩ | ⟨a, b, c, rfl⟩
  · obtain rfl : h = 0 := by simp at hh; omega
    rfl
  · rcases (by simp at hh; omega : h = 0 ∨ h = 1) with rfl | rfl <;> rfl
  · rcases (by simp at hh; omega : h = 0 ∨ h = 1 ∨ h = 2) with rfl | rfl | rfl <;> rfl
theorem lset_good {l : List Int} (h : LGood l) (i : Nat) {x : Int} (hx : 0 ≤ x ∧ x ≤ 8) : LGood (l.set i x) := by
  refine ⟨by rw [List.length_set]; exact h.1, by rw [List.length_set]; exact h.2.1, fun y hy => ?_⟩
  rcases List.mem_or_eq_of_mem_set hy with hy | rfl
  · exact h.2.2 y hy
  · exact hx
theorem lget_bd {l : List Int} (h : LGood l) (i : Nat) : 0 ≤ l.getD i 0 ∧ l.getD i 0 ≤ 8 := by
  rw [List.getD_eq_getElem?_getD]
  cases hg : l[i]? with
  | none => exact ⟨by simp, by simp⟩
  | some x => exact h.2.2 x (List.mem_of_getElem? hg)
theorem vFrom_end (e : Int) {l : List Int} (h : Nat) (hl : l.length ≤ h) (hl1 : 1 ≤ l.length ∧ l.length ≤ 3) : vFrom (vOf e l) h = [] := by
  have hz : ∀ i, (vOf e l).get i = 0 → vRow (vOf e l) i = [] := fun i hi => by unfold vRow; rw [hi, vFloors_nil (by omega)]; rfl
  unfold vFrom
  rcases lcases hl1 with ⟨a, rfl⟩ | ⟨a, b, rfl⟩ | ⟨a, b, c, rfl⟩ <;> simp at hl
  · by_cases h1 : h = 1
    · subst h1
      simp [hz 1 rfl, hz 2 rfl]
    · by_cases h2 : h = 2
      · subst h2
        simp [hz 2 rfl]
      · rw [if_neg (by omega), if_neg h1, if_neg h2]
  · by_cases h2 : h = 2
    · subst h2
      simp [hz 2 rfl]
    · rw [if_neg (by omega), if_neg (by omega), if_neg h2]
  · rw [if_neg (by omega), if_neg (by omega), if_neg (by omega)]
theorem need_is (e : Int) {l : List Int} (hl : 1 ≤ l.length ∧ l.length ≤ 3) : spec_hoNeeded.f 9 l = some (vOf e l).need := by
  have r0 : ∀ (a : Int) (l : List Int), rd (a :: l) 0 = a := fun _ _ => rfl
  have r1 : ∀ (a b : Int) (l : List Int), rd (a :: b :: l) 1 = b := fun _ _ _ => rfl
  have r2 : ∀ (a b c : Int) (l : List Int), rd (a :: b :: c :: l) 2 = c := fun _ _ _ _ => rfl
  have w1 : wrap64 1 = 1 := Hw.wrap_id (by omega) (by omega)
  have w2 : wrap64 2 = 2 := Hw.wrap_id (by omega) (by omega)
  have w3 : wrap64 3 = 3 := Hw.wrap_id (by omega) (by omega)
  unfold spec_hoNeeded.f
  simp only [VS.need, vOf]
  rcases lcases hl with ⟨a, rfl⟩ | ⟨a, b, rfl⟩ | ⟨a, b, c, rfl⟩ <;> simp only [spec_hoNeeded.l0] <;> unfold nz
  · by_cases h0 : a > 0 <;> simp [h0, r0, w1, w2, w3]
  · by_cases h0 : a > 0 <;> by_cases h1 : b > 0 <;> simp [h0, h1, r0, r1, w1, w2, w3]
  · by_cases h0 : a > 0 <;> by_cases h1 : b > 0 <;> by_cases h2 : c > 0 <;> simp [h0, h1, h2, r0, r1, r2, w1, w2, w3]
theorem place_is {e : Int} {l : List Int} (hl : 1 ≤ l.length ∧ l.length ≤ 3) (hg : VGood (vOf e l)) : spec_hoPlace.f 9 e l = some ((vPlace (vOf e l) : Nat) : Int) := by
  have r0 : ∀ (a : Int) (l : List Int), rd (a :: l) 0 = a := fun _ _ => rfl
  have r1 : ∀ (a b : Int) (l : List Int), rd (a :: b :: l) 1 = b := fun _ _ _ => rfl
  have r2 : ∀ (a b c : Int) (l : List Int), rd (a :: b :: c :: l) 2 = c := fun _ _ _ _ => rfl
  have w1 : wrap64 1 = 1 := Hw.wrap_id (by omega) (by omega)
  have w2 : wrap64 2 = 2 := Hw.wrap_id (by omega) (by omega)
  have w3 : wrap64 3 = 3 := Hw.wrap_id (by omega) (by omega)
  unfold spec_hoPlace.f vPlace
  unfold VGood at hg
  rcases lcases hl with ⟨a, rfl⟩ | ⟨a, b, rfl⟩ | ⟨a, b, c, rfl⟩ <;> simp only [vOf, List.getD_cons_zero, List.getD_cons_succ, List.getD_nil] at hg ⊢ <;> simp only [spec_hoPlace.l0]
  · simp [r0, w1, w2, w3]
    have q0 : wrap64 (e * 9) = e * 9 := Hw.wrap_id (by omega) (by omega)
    have q1 : wrap64 (e * 9 + a) = e * 9 + a := Hw.wrap_id (by omega) (by omega)
    have q2 : wrap64 ((e * 9 + a) * 9) = (e * 9 + a) * 9 := Hw.wrap_id (by omega) (by omega)
    have q3 : wrap64 ((e * 9 + a) * 9 * 9) = (e * 9 + a) * 9 * 9 := Hw.wrap_id (by omega) (by omega)
    simp only [q0, q1, q2, q3]
    omega
  · simp [r0, r1, w1, w2, w3]
    have q0 : wrap64 (e * 9) = e * 9 := Hw.wrap_id (by omega) (by omega)
    have q1 : wrap64 (e * 9 + a) = e * 9 + a := Hw.wrap_id (by omega) (by omega)
    have q2 : wrap64 ((e * 9 + a) * 9) = (e * 9 + a) * 9 := Hw.wrap_id (by omega) (by omega)
    have q3 : wrap64 ((e * 9 + a) * 9 + b) = (e * 9 + a) * 9 + b := Hw.wrap_id (by omega) (by omega)
    have q4 : wrap64 (((e * 9 + a) * 9 + b) * 9) = ((e * 9 + a) * 9 + b) * 9 := Hw.wrap_id (by omega) (by omega)
    simp only [q0, q1, q2, q3, q4]
    omega
  · simp [r0, r1, r2, w1, w2, w3]
    have q0 : wrap64 (e * 9) = e * 9 := Hw.wrap_id (by omega) (by omega)
    have q1 : wrap64 (e * 9 + a) = e * 9 + a := Hw.wrap_id (by omega) (by omega)
    have q2 : wrap64 ((e * 9 + a) * 9) = (e * 9 + a) * 9 := Hw.wrap_id (by omega) (by omega)
    have q3 : wrap64 ((e * 9 + a) * 9 + b) = (e * 9 + a) * 9 + b := Hw.wrap_id (by omega) (by omega)
    have q4 : wrap64 (((e * 9 + a) * 9 + b) * 9) = ((e * 9 + a) * 9 + b) * 9 := Hw.wrap_id (by omega) (by omega)
    have q5 : wrap64 (((e * 9 + a) * 9 + b) * 9 + c) = ((e * 9 + a) * 9 + b) * 9 + c := Hw.wrap_id (by omega) (by omega)
    simp only [q0, q1, q2, q3, q4, q5]
    omega
theorem own_is {l : List Int} (hl : l.length ≤ 3) : spec_l1Own.f l = some l := by
  unfold spec_l1Own.f
  simp
  omega
theorem with_is {l : List Int} (hl : l.length ≤ 3) {h : Nat} (hh : h < l.length) (x : Int) : spec_hoWith.f l h x = some (l.set h x) := by
  unfold spec_hoWith.f
  rw [own_is hl, Option.bind_some, if_pos (by omega), if_pos (by omega), Int.toNat_natCast]
theorem hleast_is (a b : Int) : spec_l1Least.f a b = some (min a b) := by unfold spec_l1Least.f; split <;> (congr 1; omega)
theorem hmost_is (a b : Int) : spec_l1Most.f a b = some (max a b) := by unfold spec_l1Most.f; split <;> (congr 1; omega)
def HTab (w : World) (tb c : Nat) : Prop := ∃ xs : List Int, Kd.R (Kd.int .i64) 3 w 0 (fun k_ => k_ = tb) (.slice (some ⟨tb, 0, none⟩) 5103 c) xs ∧ ∀ v, VGood v → xs[vPlace v]? = some (-1) ∨ xs[vPlace v]? = some (sH v)
theorem HTab.len {w : World} {tb c : Nat} {xs : List Int} (h : Kd.R (Kd.int .i64) 3 w 0 (fun k_ => k_ = tb) (.slice (some ⟨tb, 0, none⟩) 5103 c) xs) : xs.length = 5103 := (Kd.R_reads' h).1.symm
theorem HTab.lt {w : World} {tb c : Nat} (h : HTab w tb c) : tb < w.heap.size := by
  obtain ⟨xs, h1, _⟩ := h
  have hl := HTab.len h1
  obtain ⟨g, cap, e, _, h2, _⟩ := Kd.R_form h1 (by omega)
  injection e with e1
  injection e1 with e2
  injection e2 with e3
  omega
theorem HTab.below {w w' : World} {tb c : Nat} (h : HTab w tb c) (hb : Below w.heap.size w w') : HTab w' tb c := by
  obtain ⟨xs, h1, h2⟩ := h
  exact ⟨xs, Kd.R_below h1 hb, h2⟩
theorem HTab.grown {w w' : World} {tb c : Nat} {o : Option Nat} (h : HTab w tb c) (hg : w.grownBy w' o) (ho : some tb ≠ o) : HTab w' tb c := by
  obtain ⟨xs, h1, h2⟩ := h
  exact ⟨xs, Kd.R_grown h1 hg (fun k hk => by subst hk; exact ho), h2⟩
theorem HTab.far {w : World} {tb c g i : Nat} {u : Value} (h : HTab w tb c) (hne : tb ≠ g) : HTab (w.setCell ⟨g, i, none⟩ u) tb c := by
  obtain ⟨xs, h1, h2⟩ := h
  exact ⟨xs, Kd.R_far h1 (fun k hk => by subst hk; exact hne) _, h2⟩
theorem HTab.look {w : World} {tb c : Nat} (h : HTab w tb c) {v : VS} (hv : VGood v) : ∃ y : Int, (y = -1 ∨ y = sH v) ∧ w.cell? ⟨tb, vPlace v, none⟩ = some (.int .i64 y) ∧ w.frozen? ⟨tb, vPlace v, none⟩ = false := by
  obtain ⟨xs, h1, h2⟩ := h
  have hl := HTab.len h1
  have hp := vPlace_lt hv
  obtain ⟨c1, c2⟩ := Kd.R_celln 0 h1 (vPlace v : Int) (by omega) (by omega)
  simp only [Int.toNat_natCast] at c1 c2
  refine ⟨xs.getD (vPlace v) 0, ?_, c1, c2⟩
  rw [List.getD_eq_getElem?_getD]
  rcases h2 v hv with h | h <;> rw [h]
  · exact .inl rfl
  · exact .inr rfl
theorem HTab.store {w : World} {tb c : Nat} (h : HTab w tb c) {v : VS} (hv : VGood v) : HTab (w.setCell ⟨tb, vPlace v, none⟩ (.int .i64 (sH v))) tb c ∧ w.grownBy (w.setCell ⟨tb, vPlace v, none⟩ (.int .i64 (sH v))) (some tb) := by
  obtain ⟨xs, h1, h2⟩ := h
  have hl := HTab.len h1
  have hp := vPlace_lt hv
  have h3 := Kd.R_putg h1 (vPlace v : Int) (sH v)
  simp only [Int.toNat_natCast] at h3
  refine ⟨⟨_, h3.1, fun q hq => ?_⟩, h3.2⟩
  rw [List.getElem?_set]
  by_cases e : vPlace v = vPlace q
  · have := vPlace_inj hv hq e
    subst this
    rw [if_pos rfl, if_pos (by omega)]
    exact .inr rfl
  · rw [if_neg e]
    exact h2 q hq
/-- A list that is read, apart from the table. -/
def Lst (w : World) (tb : Nat) (A : Option Addr) (l : List Int) : Prop := Kd.C (Kd.int .i64) w A l.length l ∧ ∀ ad, A = some ad → ad.block ≠ tb
theorem Lst.below {w w' : World} {tb : Nat} {A : Option Addr} {l : List Int} (h : Lst w tb A l) (hb : Below w.heap.size w w') : Lst w' tb A l := ⟨Kd.C_below h.1 hb, h.2⟩
theorem Lst.drew {w : World} {tb : Nat} {A : Option Addr} {l : List Int} (h : Lst w tb A l) : Lst w.drew tb A l := ⟨Kd.C_drew h.1, h.2⟩
theorem Lst.grown {w w' : World} {tb : Nat} {A : Option Addr} {l : List Int} (h : Lst w tb A l) (hg : w.grownBy w' (some tb)) : Lst w' tb A l :=
  ⟨Kd.C_keep (0 : Int) h.1 (g := tb) ⟨hg.size, fun k hk hne _ => hg.block k hk (by simp; exact hne)⟩ (fun ad ha _ => h.2 ad ha), h.2⟩
theorem Lst.look {w : World} {tb : Nat} {A : Option Addr} {l : List Int} (h : Lst w tb A l) {i : Nat} (hi : i < l.length) : ∃ ad, A = some ad ∧ w.cell? (ad.add i) = some (.int .i64 (l.getD i 0)) := by
  obtain ⟨ad, e, hc⟩ := Kd.at_int h.1 (i : Int) (by omega) (by omega)
  simp only [Int.toNat_natCast] at hc
  refine ⟨ad, e, hc.trans ?_⟩
  rfl
theorem Lst.of_R {w w0 : World} {tb : Nat} {A : Option Addr} {n c : Nat} {ok : Nat → Prop} {l : List Int} (h : Kd.R (Kd.int .i64) 3 w w0.heap.size ok (.slice A n c) l) (ht : tb < w0.heap.size) : n = l.length ∧ l.length ≤ c ∧ Lst w tb A l := by
  have h2 := Kd.R_reads' h
  refine ⟨h2.1, by have := h2.2.1; have := h2.1; omega, h2.2.2, fun ad ha => ?_⟩
  subst ha
  have := Kd.R_base h ad.block (by simp [Value.ownBlock])
  omega
def HFewOk (tb c0 : Nat) (e : Int) (l : List Int) : Prop := ∀ (A : Option Addr) (c : Nat) (w : World), l.length ≤ c → Lst w tb A l → HTab w tb c0 → Calls Try.prog 120 #[.slice (some ⟨tb, 0, none⟩) 5103 c0, .int .i64 e, .slice A l.length c] w fun e_ w' => e_ = .returned (.int .i64 (sH (vOf e l))) ∧ HTab w' tb c0 ∧ w.grownBy w' (some tb)
def HDropOk (tb c0 : Nat) (e : Int) (l : List Int) (t : Nat × Int) : Prop := ∀ (A : Option Addr) (c : Nat) (w : World), l.length ≤ c → Lst w tb A l → HTab w tb c0 → Calls Try.prog 121 #[.slice (some ⟨tb, 0, none⟩) 5103 c0, .int .i64 e, .slice A l.length c, .int .i64 (t.1 : Int), .int .i64 t.2] w fun e_ w' => e_ = .returned (.int .i64 (sHW (vOf e l) t)) ∧ HTab w' tb c0 ∧ w.grownBy w' (some tb)

set_option maxHeartbeats 8000000 in
set_option maxRecDepth 100000 in
theorem hdrop_of (tb c0 : Nat) (e : Int) (l : List Int) (h : Nat) (f : Int) (hl : LGood l) (he : 1 ≤ e ∧ e ≤ 6) (hh : h < l.length) (hf : 1 ≤ f ∧ f ≤ l.getD h 0) (H1 : HFewOk tb c0 (e - 1) (l.set h (f - 1))) (H2 : HFewOk tb c0 e (l.set h (l.getD h 0 - f))) : HDropOk tb c0 e l (h, f) := by
  intro A c w hc hL hT
  have HT := Aside0.mk hT
  have LS := Aside0.mk hL
  have HC := Aside0.mk hc
  have HG := Aside0.mk (Hx.g_refl w (some tb))
  have hW := sHW_is (vOf e l) (h, f)
  simp only at hW
  rw [← vOf_brk e f hl.2.1 hh, ← vOf_whl e f hl.2.1 hh] at hW
  have hx := lget_bd hl h
  have hW1 := with_is hl.2.1 hh (f - 1)
  have hW2 := with_is hl.2.1 hh (l.getD h 0 - f)
  obtain ⟨xh, hxh⟩ : ∃ xh, xh = l.getD h 0 := ⟨_, rfl⟩
  rw [← hxh] at H2 hW hx hW2 hf
  obtain ⟨l1, hl1⟩ : ∃ l1, l1 = l.set h (f - 1) := ⟨_, rfl⟩
  obtain ⟨l2, hl2⟩ : ∃ l2, l2 = l.set h (xh - f) := ⟨_, rfl⟩
  rw [← hl1] at H1 hW hW1
  rw [← hl2] at H2 hW hW2
  unfold HFewOk at H1 H2
  have a1 := sH_lo (vOf (e - 1) l1)
  have a2 := sH_hi (vOf (e - 1) l1)
  have a3 := sH_lo (vOf e l2)
  have a4 := sH_hi (vOf e l2)
  obtain ⟨p, hp⟩ : ∃ p, p = sH (vOf (e - 1) l1) := ⟨_, rfl⟩
  obtain ⟨q, hq⟩ : ∃ q, q = sH (vOf e l2) := ⟨_, rfl⟩
  rw [← hp] at H1 hW a1 a2
  rw [← hq] at H2 hW a3 a4
  have HF1 := Aside0.mk H1
  have HF2 := Aside0.mk H2
  have HWi1 := Aside0.mk hW1
  have HWi2 := Aside0.mk hW2
  have HX := Aside0.mk hxh
  have HH := Aside0.mk hh
  have w3 : IntKind.i64.wrap (1 + max p q) = 1 + max p q := Hw.wrap_w (by omega) (by omega)
  have we : IntKind.i64.wrap (e - 1) = e - 1 := Hw.wrap_w (by omega) (by omega)
  have wf : IntKind.i64.wrap (f - 1) = f - 1 := Hw.wrap_w (by omega) (by omega)
  have wx : IntKind.i64.wrap (xh - f) = xh - f := Hw.wrap_w (by omega) (by omega)
  have p0 : (0 : Int) ≤ (h : Int) := by omega
  have q0 : (h : Int) < (l.length : Int) := by omega
  replace p0 := eq_true p0
  replace q0 := eq_true q0
  show Calls Try.prog 121 #[.slice (some ⟨tb, 0, none⟩) 5103 c0, .int .i64 e, .slice A l.length c, .int .i64 (h : Int), .int .i64 f] w _
  rw [hW]
  clear hT hL hc hW hx hW1 hW2 H1 H2 hl1 hl2 hp hq a1 a2 a3 a4 hxh hh hf he hl
  go_enter Try.func121, Try.ntmps121
  go_upto_region 2 with (first | ((with_reducible refine gate_callee (f := 148) rfl ?_); refine goesL_ (some 20) rfl rfl Try.func148 (by kernel_rfl) rfl #[.slice A l.length c, .int .i64 (h : Int), .int .i64 (f - 1)] rfl (by (try simp only [List.map_toArray, List.map_cons, List.map_nil]); first | done | rfl) ?_; refine (spec_hoWith.calls A c l (h : Int) (f - 1) l1 _ LS.out.1 HC.out HWi1.out).mono ?_; rintro e_ w_1 ⟨v_, rfl, hr_, hb_⟩; refine ⟨_, rfl, ?_⟩; obtain ⟨A1, c1, rfl⟩ := Kd.R_slice hr_; have hr2_ := Lst.of_R (tb := tb) hr_ (by have := HT.out.lt; omega); have n0_ : Aside0 (HTab w_1 tb c0) := ⟨HTab.below (w := _) (by exact HT.out) hb_⟩; have n1_ : Aside0 (w.grownBy w_1 (some tb)) := ⟨Hx.g_below (by first | exact HG.out | exact Hx.g_drew HG.out | exact Hx.g_drewN HG.out _) hb_⟩; have n2_ : Aside0 (Lst w_1 tb A l) := ⟨Lst.below (w := _) (by exact LS.out) hb_⟩; have m0_ : Aside0 (Lst w_1 tb A1 l1) := ⟨hr2_.2.2⟩; have m1_ : Aside0 (l1.length ≤ c1) := ⟨hr2_.2.1⟩; (try clear HT); (try clear HG); (try clear LS); have HT := n0_; have HG := n1_; have LS := n2_; have LS1 := m0_; have HC1 := m1_; clear n0_ n1_ n2_ m0_ m1_; clear hb_ hr_ hr2_) | ((with_reducible refine gate_callee (f := 120) rfl ?_); refine goesL_ (some 21) rfl rfl Try.func120 (by kernel_rfl) rfl #[.slice (some ⟨tb, 0, none⟩) 5103 c0, .int .i64 (e - 1), .slice A1 l1.length c1] rfl (by (try simp only [List.map_toArray, List.map_cons, List.map_nil]); first | done | rfl) ?_; refine (HF1.out A1 c1 _ HC1.out LS1.out HT.out).mono ?_; rintro e_ w_2 ⟨rfl, ht_, hg_⟩; refine ⟨_, rfl, ?_⟩; have n0_ : Aside0 (HTab w_2 tb c0) := ⟨ht_⟩; have n1_ : Aside0 (w.grownBy w_2 (some tb)) := ⟨World.grownBy.trans (by first | exact HG.out | exact Hx.g_drew HG.out | exact Hx.g_drewN HG.out _) hg_⟩; have n2_ : Aside0 (Lst w_2 tb A l) := ⟨Lst.grown LS.out hg_⟩; have n3_ : Aside0 (Lst w_2 tb A1 l1) := ⟨Lst.grown LS1.out hg_⟩; have n4_ : Aside0 (l1.length ≤ c1) := ⟨HC1.out⟩; (try clear HT); (try clear HG); (try clear LS); (try clear LS1); (try clear HC1); have HT := n0_; have HG := n1_; have LS := n2_; have LS1 := n3_; have HC1 := n4_; clear n0_ n1_ n2_ n3_ n4_; clear ht_ hg_))
  obtain ⟨ad, rfl, hx0⟩ := Lst.look LS.out HH.out
  rw [← HX.out] at hx0
  go_wp2_with (first | ((with_reducible refine gate_callee (f := 148) rfl ?_); refine goesL_ (some 32) rfl rfl Try.func148 (by kernel_rfl) rfl #[.slice (some ad) l.length c, .int .i64 (h : Int), .int .i64 (xh - f)] rfl (by (try simp only [List.map_toArray, List.map_cons, List.map_nil]); first | done | rfl) ?_; refine (spec_hoWith.calls (some ad) c l (h : Int) (xh - f) l2 _ LS.out.1 HC.out HWi2.out).mono ?_; rintro e_ w_3 ⟨v_, rfl, hr_, hb_⟩; refine ⟨_, rfl, ?_⟩; obtain ⟨A2, c2, rfl⟩ := Kd.R_slice hr_; have hr2_ := Lst.of_R (tb := tb) hr_ (by have := HT.out.lt; omega); have n0_ : Aside0 (HTab w_3 tb c0) := ⟨HTab.below (w := _) (by exact HT.out) hb_⟩; have n1_ : Aside0 (w.grownBy w_3 (some tb)) := ⟨Hx.g_below (by first | exact HG.out | exact Hx.g_drew HG.out | exact Hx.g_drewN HG.out _) hb_⟩; have n2_ : Aside0 (Lst w_3 tb (some ad) l) := ⟨Lst.below (w := _) (by exact LS.out) hb_⟩; have m0_ : Aside0 (Lst w_3 tb A2 l2) := ⟨hr2_.2.2⟩; have m1_ : Aside0 (l2.length ≤ c2) := ⟨hr2_.2.1⟩; (try clear HT); (try clear HG); (try clear LS); have HT := n0_; have HG := n1_; have LS := n2_; have LS2 := m0_; have HC2 := m1_; clear n0_ n1_ n2_ m0_ m1_; clear hb_ hr_ hr2_) | ((with_reducible refine gate_callee (f := 120) rfl ?_); refine goesL_ (some 33) rfl rfl Try.func120 (by kernel_rfl) rfl #[.slice (some ⟨tb, 0, none⟩) 5103 c0, .int .i64 (e), .slice A2 l2.length c2] rfl (by (try simp only [List.map_toArray, List.map_cons, List.map_nil]); first | done | rfl) ?_; refine (HF2.out A2 c2 _ HC2.out LS2.out HT.out).mono ?_; rintro e_ w_4 ⟨rfl, ht_, hg_⟩; refine ⟨_, rfl, ?_⟩; have n0_ : Aside0 (HTab w_4 tb c0) := ⟨ht_⟩; have n1_ : Aside0 (w.grownBy w_4 (some tb)) := ⟨World.grownBy.trans (by first | exact HG.out | exact Hx.g_drew HG.out | exact Hx.g_drewN HG.out _) hg_⟩; have n2_ : Aside0 (Lst w_4 tb (some ad) l) := ⟨Lst.grown LS.out hg_⟩; have n3_ : Aside0 (Lst w_4 tb A2 l2) := ⟨Lst.grown LS2.out hg_⟩; have n4_ : Aside0 (l2.length ≤ c2) := ⟨HC2.out⟩; (try clear HT); (try clear HG); (try clear LS); (try clear LS2); (try clear HC2); have HT := n0_; have HG := n1_; have LS := n2_; have LS2 := n3_; have HC2 := n4_; clear n0_ n1_ n2_ n3_ n4_; clear ht_ hg_) | ((with_reducible refine gate_callee (f := 133) rfl ?_); refine goesL_ (some 36) rfl rfl Try.func133 (by kernel_rfl) rfl #[.int .i64 p, .int .i64 q] rfl (by (try simp only [List.map_toArray, List.map_cons, List.map_nil]); first | done | rfl) ?_; refine (spec_l1Most.calls _ _ _ _ (hmost_is _ _)).mono ?_; rintro e_ w_5 ⟨rfl, hd_⟩; refine ⟨_, rfl, ?_⟩; have hb_ := hd_.below; clear hd_; have n0_ : Aside0 (HTab w_5 tb c0) := ⟨HTab.below (w := _) (by exact HT.out) hb_⟩; have n1_ : Aside0 (w.grownBy w_5 (some tb)) := ⟨Hx.g_below (by first | exact HG.out | exact Hx.g_drew HG.out | exact Hx.g_drewN HG.out _) hb_⟩; have n2_ : Aside0 (Lst w_5 tb (some ad) l) := ⟨Lst.below (w := _) (by exact LS.out) hb_⟩; have n3_ : Aside0 (Lst w_5 tb A2 l2) := ⟨Lst.below (w := _) (by exact LS2.out) hb_⟩; have n4_ : Aside0 (l2.length ≤ c2) := ⟨HC2.out⟩; (try clear HT); (try clear HG); (try clear LS); (try clear LS2); (try clear HC2); have HT := n0_; have HG := n1_; have LS := n2_; have LS2 := n3_; have HC2 := n4_; clear n0_ n1_ n2_ n3_ n4_; clear hb_) | ((with_reducible refine gate_callee (f := 132) rfl ?_); refine goesL_ (some 38) rfl rfl Try.func132 (by kernel_rfl) rfl #[.int .i64 1000, .int .i64 (1 + max p q)] rfl (by (try simp only [List.map_toArray, List.map_cons, List.map_nil]); first | done | rfl) ?_; refine (spec_l1Least.calls _ _ _ _ (hleast_is _ _)).mono ?_; rintro e_ w_6 ⟨rfl, hd_⟩; refine ⟨_, rfl, ?_⟩; have hb_ := hd_.below; clear hd_; have n0_ : Aside0 (HTab w_6 tb c0) := ⟨HTab.below (w := _) (by exact HT.out) hb_⟩; have n1_ : Aside0 (w.grownBy w_6 (some tb)) := ⟨Hx.g_below (by first | exact HG.out | exact Hx.g_drew HG.out | exact Hx.g_drewN HG.out _) hb_⟩; have n2_ : Aside0 (Lst w_6 tb (some ad) l) := ⟨Lst.below (w := _) (by exact LS.out) hb_⟩; have n3_ : Aside0 (Lst w_6 tb A2 l2) := ⟨Lst.below (w := _) (by exact LS2.out) hb_⟩; have n4_ : Aside0 (l2.length ≤ c2) := ⟨HC2.out⟩; (try clear HT); (try clear HG); (try clear LS); (try clear LS2); (try clear HC2); have HT := n0_; have HG := n1_; have LS := n2_; have LS2 := n3_; have HC2 := n4_; clear n0_ n1_ n2_ n3_ n4_; clear hb_))
  go_ret
  exact ⟨rfl, HT.out, HG.out⟩

set_option maxHeartbeats 8000000 in
set_option maxRecDepth 100000 in
theorem hfew_of (tb c0 : Nat) (e : Int) (l : List Int) (hl : LGood l) (he : 0 ≤ e ∧ e ≤ 6) (HW : VOk (vOf e l) → ∀ h f, h < l.length → 1 ≤ f ∧ f ≤ l.getD h 0 → HDropOk tb c0 e l (h, f)) : HFewOk tb c0 e l := by
  intro A c w hc hL hT
  have HT := Aside0.mk hT
  have LS := Aside0.mk hL
  have HC := Aside0.mk hc
  have HG := Aside0.mk (Hx.g_refl w (some tb))
  have hv := vOf_good hl he
  have HN := Aside0.mk (need_is e ⟨hl.1, hl.2.1⟩)
  have HP := Aside0.mk (place_is ⟨hl.1, hl.2.1⟩ hv)
  have hpl := vPlace_lt hv
  have HZ := Aside0.mk (@sH_zero (vOf e l))
  have HV := Aside0.mk (sH_never hv)
  have HE := Aside0.mk (fun h_ => sH_fold (v := vOf e l) h_)
  have HST := Aside0.mk (fun (W : World) (h_ : HTab W tb c0) => HTab.store h_ hv)
  have HLK := Aside0.mk (fun (W : World) (h_ : HTab W tb c0) => HTab.look h_ hv)
  have HWW := Aside0.mk HW
  have hs0 := sH_lo (vOf e l)
  have hs1 := sH_hi (vOf e l)
  have HGd := Aside0.mk hv
  have HLG := Aside0.mk hl
  have hnl := need_lo (vOf e l)
  obtain ⟨pl, hple⟩ : ∃ pl, pl = vPlace (vOf e l) := ⟨_, rfl⟩
  rw [← hple] at hpl HP HST HLK
  obtain ⟨x, hx⟩ : ∃ x, x = sH (vOf e l) := ⟨_, rfl⟩
  rw [← hx] at HZ HV HE HST HLK hs0 hs1
  obtain ⟨nd, hnd⟩ : ∃ nd, nd = (vOf e l).need := ⟨_, rfl⟩
  rw [← hnd] at HN HZ HV hnl
  have HND := Aside0.mk hnd
  have HPL := Aside0.mk hpl
  have HB01 := Aside0.mk (And.intro hs0 hs1)
  have HEE : Aside0 ((vOf e l).e = e) := ⟨rfl⟩
  rw [HEE.out] at HV
  rw [← hx]
  clear hT hL hc hv hpl hs0 hs1 hple hx hnd HW hl he
  by_cases h0 : nd = 0
  · have e0 : (nd == 0) = true := by simpa using h0
    have hx0 := HZ.out h0
    subst hx0
    clear h0
    go_enter Try.func120, Try.ntmps120
    go_wp2_with (first | ((with_reducible refine gate_callee (f := 81) rfl ?_); refine goesL_ (some 13) rfl rfl Try.func81 (by kernel_rfl) rfl #[.slice A l.length c] rfl (by (try simp only [List.map_toArray, List.map_cons, List.map_nil]); first | done | rfl) ?_; refine (spec_hoNeeded.calls 9 A c l nd _ LS.out.1 HC.out HN.out).mono ?_; rintro e_ w_1 ⟨rfl, hd_⟩; refine ⟨_, rfl, ?_⟩; have hb_ := hd_.below; clear hd_; have n0_ : Aside0 (HTab w_1 tb c0) := ⟨HTab.below (w := _) (by exact HT.out) hb_⟩; have n1_ : Aside0 (w.grownBy w_1 (some tb)) := ⟨Hx.g_below (by first | exact HG.out | exact Hx.g_drew HG.out | exact Hx.g_drewN HG.out _) hb_⟩; have n2_ : Aside0 (Lst w_1 tb A l) := ⟨Lst.below (w := _) (by exact LS.out) hb_⟩; (try clear HT); (try clear HG); (try clear LS); have HT := n0_; have HG := n1_; have LS := n2_; clear n0_ n1_ n2_; clear hb_))
    go_ret
    exact ⟨rfl, HT.out, HG.out⟩
  · have e0 : (nd == 0) = false := by simpa using h0
    by_cases h1 : e < nd
    · have e1 : decide (e < nd) = true := decide_eq_true h1
      have hx0 := HV.out h0 h1
      subst hx0
      clear h0 h1
      go_enter Try.func120, Try.ntmps120
      go_wp2_with (first | ((with_reducible refine gate_callee (f := 81) rfl ?_); refine goesL_ (some 13) rfl rfl Try.func81 (by kernel_rfl) rfl #[.slice A l.length c] rfl (by (try simp only [List.map_toArray, List.map_cons, List.map_nil]); first | done | rfl) ?_; refine (spec_hoNeeded.calls 9 A c l nd _ LS.out.1 HC.out HN.out).mono ?_; rintro e_ w_1 ⟨rfl, hd_⟩; refine ⟨_, rfl, ?_⟩; have hb_ := hd_.below; clear hd_; have n0_ : Aside0 (HTab w_1 tb c0) := ⟨HTab.below (w := _) (by exact HT.out) hb_⟩; have n1_ : Aside0 (w.grownBy w_1 (some tb)) := ⟨Hx.g_below (by first | exact HG.out | exact Hx.g_drew HG.out | exact Hx.g_drewN HG.out _) hb_⟩; have n2_ : Aside0 (Lst w_1 tb A l) := ⟨Lst.below (w := _) (by exact LS.out) hb_⟩; (try clear HT); (try clear HG); (try clear LS); have HT := n0_; have HG := n1_; have LS := n2_; clear n0_ n1_ n2_; clear hb_))
      go_ret
      exact ⟨rfl, HT.out, HG.out⟩
    have e1 : decide (e < nd) = false := decide_eq_false h1
    have HOk : Aside0 (VOk (vOf e l)) := ⟨⟨HGd.out, by rw [← HND.out]; omega, by rw [← HND.out]; show nd ≤ e; omega⟩⟩
    clear h0 h1 HZ HV
    go_enter Try.func120, Try.ntmps120
    go_upto_region 7 with (first | ((with_reducible refine gate_callee (f := 81) rfl ?_); refine goesL_ (some 13) rfl rfl Try.func81 (by kernel_rfl) rfl #[.slice A l.length c] rfl (by (try simp only [List.map_toArray, List.map_cons, List.map_nil]); first | done | rfl) ?_; refine (spec_hoNeeded.calls 9 A c l nd _ LS.out.1 HC.out HN.out).mono ?_; rintro e_ w_1 ⟨rfl, hd_⟩; refine ⟨_, rfl, ?_⟩; have hb_ := hd_.below; clear hd_; have n0_ : Aside0 (HTab w_1 tb c0) := ⟨HTab.below (w := _) (by exact HT.out) hb_⟩; have n1_ : Aside0 (w.grownBy w_1 (some tb)) := ⟨Hx.g_below (by first | exact HG.out | exact Hx.g_drew HG.out | exact Hx.g_drewN HG.out _) hb_⟩; have n2_ : Aside0 (Lst w_1 tb A l) := ⟨Lst.below (w := _) (by exact LS.out) hb_⟩; (try clear HT); (try clear HG); (try clear LS); have HT := n0_; have HG := n1_; have LS := n2_; clear n0_ n1_ n2_; clear hb_) | ((with_reducible refine gate_callee (f := 147) rfl ?_); refine goesL_ (some 21) rfl rfl Try.func147 (by kernel_rfl) rfl #[.int .i64 e, .slice A l.length c] rfl (by (try simp only [List.map_toArray, List.map_cons, List.map_nil]); first | done | rfl) ?_; refine (spec_hoPlace.calls 9 e A c l (pl : Int) _ LS.out.1 HC.out HP.out).mono ?_; rintro e_ w_2 ⟨rfl, hd_⟩; refine ⟨_, rfl, ?_⟩; have hb_ := hd_.below; clear hd_; have n0_ : Aside0 (HTab w_2 tb c0) := ⟨HTab.below (w := _) (by exact HT.out) hb_⟩; have n1_ : Aside0 (w.grownBy w_2 (some tb)) := ⟨Hx.g_below (by first | exact HG.out | exact Hx.g_drew HG.out | exact Hx.g_drewN HG.out _) hb_⟩; have n2_ : Aside0 (Lst w_2 tb A l) := ⟨Lst.below (w := _) (by exact LS.out) hb_⟩; (try clear HT); (try clear HG); (try clear LS); have HT := n0_; have HG := n1_; have LS := n2_; clear n0_ n1_ n2_; clear hb_))
    obtain ⟨ad, rfl, hx00⟩ := Lst.look LS.out (show 0 < l.length by have := HLG.out.1; omega)
    clear hx00
    obtain ⟨y, hy, ct, ft⟩ := HLK.out w_2 HT.out
    have p0 : (0 : Int) ≤ (pl : Int) := by omega
    have q0 : (pl : Int) < 5103 := by have := HPL.out; omega
    have hadd := Hw.add_off tb pl
    have c1 : decide (0 ≤ (pl : Int)) = true := decide_eq_true p0
    have c2 : decide ((pl : Int) < 5103) = true := decide_eq_true q0
    have c3 : decide (pl < 5103) = true := decide_eq_true HPL.out
    replace p0 := eq_true p0
    replace q0 := eq_true q0
    rcases hy with hy | hy <;> rw [hy] at ct <;> clear hy
    · go_upto_region 9 with fail
      go_wp2
      clear ct ft
      have HF := Aside0.mk (HE.out HOk.out)
      clear HE
      go_loopg [9, 33] l.length (fun n v9 v33 w' => ∃ (j : Nat) (best : Int), v33 = .int .i64 (j : Int) ∧ v9 = .int .i64 best ∧ Aside0 (j + n = l.length) ∧ Aside0 (vFold (sHW (vOf e l)) best (vFrom (vOf e l) j) = x) ∧ Aside0 (HTab w' tb c0) ∧ Aside0 (w.grownBy w' (some tb)) ∧ Aside0 (Lst w' tb (some ad) l))
      case atStart => exact ⟨0, 1000, rfl, rfl, ⟨by omega⟩, HF, HT, HG, LS⟩
      case round =>
        clear HT HG LS HF
        obtain ⟨j, best, rfl, rfl, HJ, HF, HT, HG, LS⟩ := hrel
        by_cases hlt : j < l.length
        · have hj3 : j < 3 := by have := HLG.out.2.1; omega
          have d1 : decide ((j : Int) < (l.length : Int)) = true := decide_eq_true (by omega)
          have d1n : decide (j < l.length) = true := decide_eq_true hlt
          obtain ⟨ko, rfl⟩ : ∃ ko, gk = ko + 1 := ⟨gk - 1, by have := HJ.out; omega⟩
          obtain ⟨xh, hxh⟩ : ∃ xh, xh = l.getD j 0 := ⟨_, rfl⟩
          have hxb := lget_bd HLG.out j
          rw [← hxh] at hxb
          have w2 : IntKind.i64.wrap ((j : Int) + 1) = ((j + 1 : Nat) : Int) := by rw [Hw.wrap_w (by omega) (by omega)]; omega
          have HF2 : Aside0 (vFold (sHW (vOf e l)) best ((vFloors 0 xh).map (fun g => (j, g)) ++ vFrom (vOf e l) (j + 1)) = x) := ⟨by
            have h_ := HF.out
            rw [vFrom_step _ j hj3] at h_
            unfold vRow at h_
            rw [vOf_get e l hj3, ← hxh] at h_
            exact h_⟩
          have HXB := Aside0.mk hxb
          have HXH := Aside0.mk hxh
          have HLT := Aside0.mk hlt
          clear hlt hxb hxh HF hj3
          go_wp2
          go_loopg [9, 11] xh.toNat (fun n v9 v11 w' => ∃ (f best : Int), v11 = .int .i64 f ∧ v9 = .int .i64 best ∧ Aside0 (1 ≤ f ∧ f + n = xh + 1) ∧ Aside0 (vFold (sHW (vOf e l)) best ((vFloors (f - 1) xh).map (fun g => (j, g)) ++ vFrom (vOf e l) (j + 1)) = x) ∧ Aside0 (HTab w' tb c0) ∧ Aside0 (w.grownBy w' (some tb)) ∧ Aside0 (Lst w' tb (some ad) l))
          case atStart => exact ⟨1, best, rfl, rfl, ⟨by have := HXB.out; omega⟩, HF2, HT, HG, LS⟩
          case round =>
            clear HT HG LS HF2
            obtain ⟨f, b2, rfl, rfl, HI, HF, HT, HG, LS⟩ := hrel
            obtain ⟨ad2, ead, hx0⟩ := Lst.look LS.out HLT.out
            cases ead
            rw [← HXH.out] at hx0
            have pj : (0 : Int) ≤ (j : Int) := by omega
            have qj : (j : Int) < (l.length : Int) := by have := HLT.out; omega
            replace pj := eq_true pj
            replace qj := eq_true qj
            by_cases hle : f ≤ xh
            · have d2 : decide (f ≤ xh) = true := decide_eq_true hle
              obtain ⟨ki, rfl⟩ : ∃ ki, gk = ki + 1 := ⟨gk - 1, by have := HI.out; omega⟩
              have w3 : IntKind.i64.wrap (f + 1) = f + 1 := Hw.wrap_w (by have := HI.out; omega) (by have := HXB.out; omega)
              have hd := HWW.out HOk.out j f HLT.out ⟨HI.out.1, by rw [← HXH.out]; exact hle⟩
              unfold HDropOk at hd
              obtain ⟨gw, hgw⟩ : ∃ gw, gw = sHW (vOf e l) (j, f) := ⟨_, rfl⟩
              rw [← hgw] at hd
              have HD := Aside0.mk hd
              have HF2 : Aside0 (vFold (sHW (vOf e l)) (min b2 gw) ((vFloors (f + 1 - 1) xh).map (fun g => (j, g)) ++ vFrom (vOf e l) (j + 1)) = x) := ⟨by
                have h_ := HF.out
                rw [vFloors_cons (lo := f - 1) (by omega), show f - 1 + 1 = f by omega, List.map_cons, List.cons_append, vFold_cons, ← hgw] at h_
                rw [show f + 1 - 1 = f by omega]
                exact h_⟩
              have HI2 : Aside0 (1 ≤ f + 1 ∧ f + 1 + (ki : Int) = xh + 1) := ⟨by have := HI.out; omega⟩
              clear hd hle HF HI hgw
              go_wp2_with (first | ((with_reducible refine gate_callee (f := 121) rfl ?_); refine goesL_ (some 50) rfl rfl Try.func121 (by kernel_rfl) rfl #[.slice (some ⟨tb, 0, none⟩) 5103 c0, .int .i64 e, .slice (some ad) l.length c, .int .i64 (j : Int), .int .i64 f] rfl (by (try simp only [List.map_toArray, List.map_cons, List.map_nil]); first | done | rfl) ?_; refine (HD.out (some ad) c _ HC.out LS.out HT.out).mono ?_; rintro e_ w_3 ⟨rfl, ht_, hg_⟩; refine ⟨_, rfl, ?_⟩; have n0_ : Aside0 (HTab w_3 tb c0) := ⟨ht_⟩; have n1_ : Aside0 (w.grownBy w_3 (some tb)) := ⟨World.grownBy.trans (by first | exact HG.out | exact Hx.g_drew HG.out | exact Hx.g_drewN HG.out _) hg_⟩; have n2_ : Aside0 (Lst w_3 tb (some ad) l) := ⟨Lst.grown LS.out hg_⟩; (try clear HT); (try clear HG); (try clear LS); have HT := n0_; have HG := n1_; have LS := n2_; clear n0_ n1_ n2_; clear ht_ hg_) | ((with_reducible refine gate_callee (f := 132) rfl ?_); refine goesL_ (some 51) rfl rfl Try.func132 (by kernel_rfl) rfl #[.int .i64 b2, .int .i64 gw] rfl (by (try simp only [List.map_toArray, List.map_cons, List.map_nil]); first | done | rfl) ?_; refine (spec_l1Least.calls _ _ _ _ (hleast_is _ _)).mono ?_; rintro e_ w_4 ⟨rfl, hd_⟩; refine ⟨_, rfl, ?_⟩; have hb_ := hd_.below; clear hd_; have n0_ : Aside0 (HTab w_4 tb c0) := ⟨HTab.below (w := _) (by exact HT.out) hb_⟩; have n1_ : Aside0 (w.grownBy w_4 (some tb)) := ⟨Hx.g_below (by first | exact HG.out | exact Hx.g_drew HG.out | exact Hx.g_drewN HG.out _) hb_⟩; have n2_ : Aside0 (Lst w_4 tb (some ad) l) := ⟨Lst.below (w := _) (by exact LS.out) hb_⟩; (try clear HT); (try clear HG); (try clear LS); have HT := n0_; have HG := n1_; have LS := n2_; clear n0_ n1_ n2_; clear hb_))
              go_roundg ki
              case measure => omega
              case rel => exact ⟨f + 1, _, rfl, rfl, HI2, HF2, HT, HG, LS⟩
            · have d2 : decide (f ≤ xh) = false := decide_eq_false hle
              have HF2 : Aside0 (vFold (sHW (vOf e l)) b2 (vFrom (vOf e l) (j + 1)) = x) := ⟨by
                have h_ := HF.out
                rw [vFloors_nil (by omega)] at h_
                exact h_⟩
              clear hle HF HI
              go_wp2
              go_roundg ko
              case measure => omega
              case rel => exact ⟨j + 1, b2, rfl, rfl, ⟨by have := HJ.out; omega⟩, HF2, HT, HG, LS⟩
        · have d1 : decide ((j : Int) < (l.length : Int)) = false := decide_eq_false (by omega)
          have d1n : decide (j < l.length) = false := decide_eq_false hlt
          have hb : best = x := by
            have h_ := HF.out
            rw [vFrom_end e j (by omega) ⟨HLG.out.1, HLG.out.2.1⟩] at h_
            exact h_
          subst hb
          clear hlt HF
          obtain ⟨y, hy, ct, ft⟩ := HLK.out wr HT.out
          clear hy
          obtain ⟨ht1, ht2⟩ := HST.out wr HT.out
          have HT2 := Aside0.mk ht1
          have HG2 := Aside0.mk (HG.out.trans ht2)
          clear ht1 ht2
          go_wp2_with (first | ((with_reducible refine gate_store (t := 3) (p := 56) rfl ?_); refine store_event (t := 3) (p := 56) (v := ?vo) (w1 := wr.setCell ⟨tb, pl, none⟩ (.int .i64 best)) ?hg ?ho ?hn ?hr ?_; (case ho => rfl); (case hg => rfl); (case hn => rfl); (case hr => first | (go_simp; done) | (go_simp; rfl)); intro w_9 hw_; rw [← hw_] at HT2 HG2; clear hw_))
          go_ret
          exact ⟨rfl, HT2.out, HG2.out⟩
    · have d1 : decide (x ≥ 0) = true := decide_eq_true HB01.out.1
      have d2 : decide (0 ≤ x) = true := decide_eq_true HB01.out.1
      go_wp2
      go_ret
      exact ⟨rfl, HT.out, HG.out⟩

theorem hfew_ok (tb c0 : Nat) : ∀ (n : Nat) (e : Int) (l : List Int), LGood l → 0 ≤ e ∧ e ≤ 6 → (vOf e l).ms ≤ n → HFewOk tb c0 e l := by
  have key : ∀ (n : Nat), (∀ (e : Int) (l : List Int), LGood l → 0 ≤ e ∧ e ≤ 6 → (vOf e l).ms < n → HFewOk tb c0 e l) → ∀ (e : Int) (l : List Int), LGood l → 0 ≤ e ∧ e ≤ 6 → (vOf e l).ms ≤ n → HFewOk tb c0 e l := by
    intro n ih e l hl he hn
    refine hfew_of tb c0 e l hl he fun hok h f hh hf => ?_
    have hg := lget_bd hl h
    have h3 : h < 3 := by have := hl.2.1; omega
    have ht : VIn (vOf e l) (h, f) := ⟨h3, hf.1, by show f ≤ (vOf e l).get h; rw [vOf_get e l h3]; exact hf.2⟩
    have a := vAft hok ht
    have he2 : (vOf e l).e = e := rfl
    have hb : 1 ≤ e := by have := hok.2.1; have := hok.2.2; omega
    rw [← vOf_brk e f hl.2.1 hh, ← vOf_whl e f hl.2.1 hh] at a
    exact hdrop_of tb c0 e l h f hl ⟨hb, he.2⟩ hh hf (ih _ _ (lset_good hl h (by omega)) (by omega) (by omega)) (ih _ _ (lset_good hl h (by omega)) he (by omega))
  intro n
  induction n with
  | zero => exact key 0 (fun e l _ _ h => by omega)
  | succ n ih => exact key (n + 1) (fun e l hl he h => ih e l hl he (by omega))
theorem hdrop_ok (tb c0 : Nat) {e : Int} {l : List Int} (hl : LGood l) (he : 0 ≤ e ∧ e ≤ 6) (hok : VOk (vOf e l)) {h : Nat} {f : Int} (hh : h < l.length) (hf : 1 ≤ f ∧ f ≤ l.getD h 0) : HDropOk tb c0 e l (h, f) := by
  have hg := lget_bd hl h
  have hb : 1 ≤ e := by have := hok.2.1; have := hok.2.2; have he2 : (vOf e l).e = e := rfl; omega
  exact hdrop_of tb c0 e l h f hl ⟨hb, he.2⟩ hh hf (hfew_ok tb c0 _ _ _ (lset_good hl h (by omega)) (by omega) (Nat.le_refl _)) (hfew_ok tb c0 _ _ _ (lset_good hl h (by omega)) he (Nat.le_refl _))
theorem Lst.app {w w' : World} {tb : Nat} {A : Option Addr} {l : List Int} {o : Option Nat} (h : Lst w tb A l) {n : Nat} (hlt : ∀ ad, A = some ad → ad.block < n) (hg : w.grownBy w' o) (ho : ∀ k, o = some k → n ≤ k) : Lst w' tb A l := by
  refine ⟨?_, h.2⟩
  cases o with
  | none => exact Kd.C_keep (0 : Int) h.1 (g := w.heap.size) ⟨hg.size, fun k hk _ _ => hg.block k hk (by simp)⟩ (fun ad ha hn => by subst ha; have := Kd.C_lt h.1 hn (by decide); omega)
  | some k0 => exact Kd.C_keep (0 : Int) h.1 (g := k0) ⟨hg.size, fun k hk hne _ => hg.block k hk (by simp; exact hne)⟩ (fun ad ha _ => by have := hlt ad ha; have := ho k0 rfl; omega)
theorem sH_able {v : VS} (hv : VGood v) (hne : v.need ≤ v.e) : hI v ≤ 24 := by
  have h1 := hI_able v.ms v hv hne (Nat.le_refl _)
  have hms : v.ms ≤ 24 := by unfold VGood at hv; unfold VS.ms; omega
  omega
theorem sH_dec {v : VS} (hv : VGood v) (hne : v.need ≤ v.e) (t : Nat × Int) : (sHW v t = sH v) ↔ (hWt v t = hI v) := by
  have := sH_able hv hne
  unfold sHW sH
  omega
set_option maxHeartbeats 8000000 in
set_option maxRecDepth 100000 in
theorem hdrops_of (tb c0 : Nat) (e : Int) (l : List Int) (hl : LGood l) (he : 0 ≤ e ∧ e ≤ 6) (hne : (vOf e l).need ≤ e) (r : List (List Int)) (hr : r = vLits (vOf e l) (vOf e l).tests) (A : Option Addr) (c : Nat) (w : World) (hc : l.length ≤ c) (hL : Lst w tb A l) (hT : HTab w tb c0) :
    Calls Try.prog 82 #[.slice (some ⟨tb, 0, none⟩) 5103 c0, .int .i64 e, .slice A l.length c] w fun e_ w' => ∃ v_ : Value, e_ = .returned v_ ∧ Kd.S (Kd.slice 3 (Kd.int .i64)) 46 w' w.heap.size (fun _ => True) v_ r ∧ HTab w' tb c0 ∧ w.grownBy w' (some tb) := by
  have HT := Aside0.mk hT
  have HC := Aside0.mk hc
  have ORD := Aside0.mk hT.lt
  obtain ⟨ad, rfl, hx00⟩ := Lst.look hL (show 0 < l.length by have := hl.1; omega)
  have HAL := Aside0.mk (Kd.C_lt hL.1 (show 0 < l.length by have := hl.1; omega) (by decide))
  have LS := Aside0.mk hL
  have HG := Aside0.mk (Hx.g_refl w (some tb))
  have hv := vOf_good hl he
  have HNE := Aside0.mk hne
  have hrl := vLits_len _ hv
  rw [← hr] at hrl
  have HRL := Aside0.mk hrl
  have HR0 := Aside0.mk hr
  have hfw := hfew_ok tb c0 (vOf e l).ms e l hl he (Nat.le_refl _)
  unfold HFewOk at hfw
  have HDE := Aside0.mk (sH_dec hv hne)
  obtain ⟨x, hx⟩ : ∃ x, x = sH (vOf e l) := ⟨_, rfl⟩
  rw [← hx] at hfw HDE
  have HFW := Aside0.mk hfw
  have HLG := Aside0.mk hl
  have HE := Aside0.mk he
  have HGd := Aside0.mk hv
  clear hT hc hL hx00 hv hne hrl hr hfw hx hl he
  go_enter Try.func82, Try.ntmps82
  go_upto_region 2 with (first | ((with_reducible refine gate_callee (f := 120) rfl ?_); refine goesL_ (some 14) rfl rfl Try.func120 (by kernel_rfl) rfl #[.slice (some ⟨tb, 0, none⟩) 5103 c0, .int .i64 (e), .slice (some ad) l.length c] rfl (by (try simp only [List.map_toArray, List.map_cons, List.map_nil]); first | done | rfl) ?_; refine (HFW.out (some ad) c _ HC.out LS.out HT.out).mono ?_; rintro e_ w_1 ⟨rfl, ht_, hg_⟩; refine ⟨_, rfl, ?_⟩; have n0_ : Aside0 (HTab w_1 tb c0) := ⟨ht_⟩; have n1_ : Aside0 (w.grownBy w_1 (some tb)) := ⟨World.grownBy.trans (by first | exact HG.out | exact Hx.g_drew HG.out | exact Hx.g_drewN HG.out _) hg_⟩; have n2_ : Aside0 (Lst w_1 tb (some ad) l) := ⟨Lst.grown LS.out hg_⟩; (try clear HT); (try clear HG); (try clear LS); have HT := n0_; have HG := n1_; have LS := n2_; clear n0_ n1_ n2_; clear ht_ hg_))
  go_wp2
  go_loopg [8, 17] l.length (fun n v8 v17 w' => ∃ (h : Nat) (xs : List (List Int)), v17 = .int .i64 (h : Int) ∧ Aside0 (h + n = l.length) ∧ Aside0 (xs ++ vLits (vOf e l) (vFrom (vOf e l) h) = r) ∧ Aside0 (HTab w' tb c0) ∧ Aside0 (w.grownBy w' (some tb)) ∧ Aside0 (Lst w' tb (some ad) l) ∧ Aside0 (Kd.S (Kd.slice 3 (Kd.int .i64)) 46 w' w.heap.size (fun k_ => w.heap.size ≤ k_) v8 xs))
  case atStart => exact ⟨0, [], rfl, ⟨by omega⟩, ⟨HR0.out.symm⟩, HT, HG, LS, ⟨Kd.S_nil _ _ _ _ _⟩⟩
  case round =>
    clear HT HG LS
    obtain ⟨h, xs, rfl, HJ, HF, HT, HG, LS, HO⟩ := hrel
    by_cases hlt : h < l.length
    · have h3 : h < 3 := by have := HLG.out.2.1; omega
      have d1 : decide ((h : Int) < (l.length : Int)) = true := decide_eq_true (by omega)
      have d1n : decide (h < l.length) = true := decide_eq_true hlt
      obtain ⟨ko, rfl⟩ : ∃ ko, gk = ko + 1 := ⟨gk - 1, by have := HJ.out; omega⟩
      obtain ⟨xh, hxh⟩ : ∃ xh, xh = l.getD h 0 := ⟨_, rfl⟩
      have hxb := lget_bd HLG.out h
      rw [← hxh] at hxb
      have w2 : IntKind.i64.wrap ((h : Int) + 1) = ((h + 1 : Nat) : Int) := by rw [Hw.wrap_w (by omega) (by omega)]; omega
      have HF2 : Aside0 (xs ++ vLits (vOf e l) ((vFloors 0 xh).map (fun g => (h, g)) ++ vFrom (vOf e l) (h + 1)) = r) := ⟨by
        have h_ := HF.out
        rw [vFrom_step _ h h3] at h_
        unfold vRow at h_
        rw [vOf_get e l h3, ← hxh] at h_
        exact h_⟩
      have HXB := Aside0.mk hxb
      have HXH := Aside0.mk hxh
      have HLT := Aside0.mk hlt
      clear hlt hxb hxh HF h3
      go_wp2
      go_loopg [8, 10] xh.toNat (fun n v8 v10 w' => ∃ (f : Int) (xs : List (List Int)), v10 = .int .i64 f ∧ Aside0 (1 ≤ f ∧ f + n = xh + 1) ∧ Aside0 (xs ++ vLits (vOf e l) ((vFloors (f - 1) xh).map (fun g => (h, g)) ++ vFrom (vOf e l) (h + 1)) = r) ∧ Aside0 (HTab w' tb c0) ∧ Aside0 (w.grownBy w' (some tb)) ∧ Aside0 (Lst w' tb (some ad) l) ∧ Aside0 (Kd.S (Kd.slice 3 (Kd.int .i64)) 46 w' w.heap.size (fun k_ => w.heap.size ≤ k_) v8 xs))
      case atStart => exact ⟨1, xs, rfl, ⟨by have := HXB.out; omega⟩, HF2, HT, HG, LS, HO⟩
      case round =>
        clear HT HG LS HF2 HO
        obtain ⟨f, xs, rfl, HI, HF, HT, HG, LS, HO⟩ := hrel
        obtain ⟨ad2, ead, hx0⟩ := Lst.look LS.out HLT.out
        cases ead
        rw [← HXH.out] at hx0
        have pj : (0 : Int) ≤ (h : Int) := by omega
        have qj : (h : Int) < (l.length : Int) := by have := HLT.out; omega
        replace pj := eq_true pj
        replace qj := eq_true qj
        by_cases hle : f ≤ xh
        · have d2 : decide (f ≤ xh) = true := decide_eq_true hle
          obtain ⟨ki, rfl⟩ : ∃ ki, gk = ki + 1 := ⟨gk - 1, by have := HI.out; omega⟩
          have w3 : IntKind.i64.wrap (f + 1) = f + 1 := Hw.wrap_w (by have := HI.out; omega) (by have := HXB.out; omega)
          have hin : VIn (vOf e l) (h, f) := ⟨by have := HLG.out.2.1; have := HLT.out; show h < 3; omega, HI.out.1, by show f ≤ (vOf e l).get h; rw [vOf_get e l (by have := HLG.out.2.1; have := HLT.out; omega), ← HXH.out]; exact hle⟩
          have hd := hdrop_ok tb c0 HLG.out HE.out ⟨HGd.out, vAft_need HGd.out hin, HNE.out⟩ HLT.out (f := f) ⟨HI.out.1, by rw [← HXH.out]; exact hle⟩
          unfold HDropOk at hd
          have hde := HDE.out (h, f)
          obtain ⟨gw, hgw⟩ : ∃ gw, gw = sHW (vOf e l) (h, f) := ⟨_, rfl⟩
          rw [← hgw] at hd hde
          have HD := Aside0.mk hd
          have hJ := HF.out
          rw [vFloors_cons (lo := f - 1) (by omega), show f - 1 + 1 = f by omega, List.map_cons, List.cons_append] at hJ
          have HI2 : Aside0 (1 ≤ f + 1 ∧ f + 1 + (ki : Int) = xh + 1) := ⟨by have := HI.out; omega⟩
          by_cases hb : gw = x
          · have e0 : (gw == x) = true := by simpa using hb
            have e0' : (x == gw) = true := by simpa using hb.symm
            rw [vLits_pos _ _ _ (hde.1 hb)] at hJ
            obtain ⟨ys, hys⟩ : ∃ ys : List (List Int), ys = xs ++ [([(h : Int), f] : List Int)] := ⟨_, rfl⟩
            have Nys := Aside0.mk hys
            have HJ2 : Aside0 (ys ++ vLits (vOf e l) ((vFloors (f + 1 - 1) xh).map (fun g => (h, g)) ++ vFrom (vOf e l) (h + 1)) = r) := ⟨by
              rw [show f + 1 - 1 = f by omega, hys, List.append_assoc]
              simp only [vLit] at hJ
              exact hJ⟩
            have HN : Aside0 (xs.length + 1 ≤ 24) := ⟨by
              have h_ := congrArg List.length hJ
              have h2_ := HRL.out
              simp at h_
              omega⟩
            clear hd hde hgw hin hle HI hJ hb hys HF
            go_wp2_with (first | ((with_reducible refine gate_callee (f := 121) rfl ?_); refine goesL_ (some 33) rfl rfl Try.func121 (by kernel_rfl) rfl #[.slice (some ⟨tb, 0, none⟩) 5103 c0, .int .i64 e, .slice (some ad) l.length c, .int .i64 (h : Int), .int .i64 f] rfl (by (try simp only [List.map_toArray, List.map_cons, List.map_nil]); first | done | rfl) ?_; refine (HD.out (some ad) c _ HC.out LS.out HT.out).mono ?_; rintro e_ w_2 ⟨rfl, ht_, hg_⟩; refine ⟨_, rfl, ?_⟩; have n0_ : Aside0 (HTab w_2 tb c0) := ⟨ht_⟩; have n1_ : Aside0 (w.grownBy w_2 (some tb)) := ⟨World.grownBy.trans (by first | exact HG.out | exact Hx.g_drew HG.out | exact Hx.g_drewN HG.out _) hg_⟩; have n2_ : Aside0 (Lst w_2 tb (some ad) l) := ⟨Lst.grown LS.out hg_⟩; have n3_ : Aside0 (Kd.S (Kd.slice 3 (Kd.int .i64)) 46 w_2 w.heap.size (fun k_ => w.heap.size ≤ k_) u8 xs) := ⟨Kd.S_grown (row := some tb) HO.out hg_ (fun k_ hk_ h_ => by have := Option.some.inj h_; have := ORD.out; have h1_ : w.heap.size ≤ k_ := hk_; omega)⟩; (try clear HT); (try clear HG); (try clear LS); (try clear HO); have HT := n0_; have HG := n1_; have LS := n2_; have HO := n3_; clear n0_ n1_ n2_ n3_; clear ht_ hg_) | ((with_reducible refine gate_dst (N := 39) rfl ?_); refine Kd.R_lit (Kd.int .i64) _ 3 ?hg (N := 39) ?hd (xs := ([(h : Int), f] : List Int)) (inner := [.int .i64 ((h : Int)), .int .i64 (f)]) (ok := fun k_ => w.heap.size ≤ k_) (okp := fun k_ => w.heap.size ≤ k_) ?hr ?hp (fun _ hk => hk) ?hf (Below.refl _ _) (Nat.le_refl _) (by simp) ?_; (case hd => rfl); (case hg => rfl); (case hr => first | (go_simp; done) | (go_simp; rfl)); (case hp => exact (Reps.one (show Kd.M (Kd.int .i64) _ _ _ ((h : Int)) [.int .i64 ((h : Int))] from rfl) (Reps.one (show Kd.M (Kd.int .i64) _ _ _ (f) [.int .i64 (f)] from rfl) (Reps.none _ _)))); (case hf => (show w.heap.size ≤ w_2.heap.size); have := ORD.out; have := HT.out.lt; have := HG.out.size; omega); intro vl_ w_3 ho_ hb_ hg_ hn_; clear hg_ hn_; have n0_ : Aside0 (HTab w_3 tb c0) := ⟨HTab.below (w := _) (by exact HT.out) hb_⟩; have n1_ : Aside0 (w.grownBy w_3 (some tb)) := ⟨Hx.g_below (by first | exact HG.out | exact Hx.g_drew HG.out | exact Hx.g_drewN HG.out _) hb_⟩; have n2_ : Aside0 (Lst w_3 tb (some ad) l) := ⟨Lst.below (w := _) (by exact LS.out) hb_⟩; have m0_ : Aside0 (Kd.S (Kd.slice 3 (Kd.int .i64)) 46 w_3 w.heap.size (fun k_ => (w.heap.size ≤ k_) ∧ some k_ ≠ (vl_ : Value).ownBlock) u8 xs) := ⟨Kd.S_elder' HO.out (Kd.R_base ho_) hb_⟩; have m1_ : Aside0 (Kd.R (Kd.int .i64) 3 w_3 w.heap.size (fun k_ => w.heap.size ≤ k_) vl_ ([(h : Int), f] : List Int)) := ⟨Kd.R_lower ho_ (by have := HT.out.lt; have := HG.out.size; omega)⟩; (try clear HT); (try clear HG); (try clear LS); (try clear HO); have HT := n0_; have HG := n1_; have LS := n2_; have HO := m0_; have HL := m1_; clear n0_ n1_ n2_ m0_ m1_; clear ho_ hb_; obtain ⟨Ao_, co_, eo_⟩ := Kd.R_slice HL.out; subst eo_) | ((with_reducible refine gate_builtin (b := .append) (xs := #[.tmp 36, .tmp 40]) rfl ?_); at_builtin; refine Kd.S_append (Kd.slice 3 (Kd.int .i64)) (w0 := w_3) w.heap.size rfl (.tmp 36) (.tmp 40) 30 46 (.slice none 0 0) 24 rfl Try.underlying30 info46 rfl (by decide) (by omega) u8 xs ([(h : Int), f] : List Int) [(.slice Ao_ ([(h : Int), f] : List Int).length co_)] (fun k_ => w.heap.size ≤ k_) (fun k_ => some k_ = ((.slice Ao_ ([(h : Int), f] : List Int).length co_) : Value).ownBlock) rfl rfl ?aP (fun k_ hk_ => (Kd.R_mono (ok' := fun k_ => (w.heap.size ≤ k_) ∧ some k_ ≠ (u8 : Value).ownBlock) (Kd.R_apart' HL.out (Kd.S_typed HO.out) (by decide)) (fun k_ hk => hk)).1 k_ hk_.symm) ?aF ?aO ?aB ?aS ?aL ?_; (case aP => exact Kd.M_row (Kd.R_mono (Kd.R_tight rfl (Kd.R_mono (ok' := fun k_ => (w.heap.size ≤ k_) ∧ some k_ ≠ (u8 : Value).ownBlock) (Kd.R_apart' HL.out (Kd.S_typed HO.out) (by decide)) (fun k_ hk => hk))) (fun _ h_ => h_))); (case aB => exact Below.refl _ _); (case aF => exact (fun k_ hk_ => by have := ORD.out; have := HT.out.lt; have := HG.out.size; show w.heap.size ≤ k_; omega)); (case aO => exact Kd.S_mono HO.out (fun k_ hk => ⟨hk.1, fun e_ => hk.2 e_⟩)); (case aS => exact (by have := HT.out.lt; have := HG.out.size; omega)); (case aL => have := HT.out.lt; have := HG.out.size; have := HN.out; omega); intro v_ w_4 ho_ hb_ hg_ hat_; rw [← Nys.out] at ho_; have n0_ : Aside0 (HTab w_4 tb c0) := ⟨HTab.grown HT.out hg_ (fun h_ => by have h2_ : w.heap.size ≤ tb := ((Kd.S_R HO.out).1 _ h_.symm).1; have := ORD.out; omega)⟩; have n1_ : Aside0 (w.grownBy w_4 (some tb)) := ⟨Hx.g_append (by first | exact HG.out | exact Hx.g_drew HG.out | exact Hx.g_drewN HG.out _) hg_ (fun k_ h_ => by have h2_ : w.heap.size ≤ k_ := ((Kd.S_R HO.out).1 _ h_).1; have := ORD.out; omega)⟩; have n2_ : Aside0 (Lst w_4 tb (some ad) l) := ⟨Lst.app LS.out (n := w.heap.size) (fun ad_ h_ => by injection h_ with h2_; rw [← h2_]; exact HAL.out) hg_ (fun k_ h_ => by have h2_ : w.heap.size ≤ k_ := ((Kd.S_R HO.out).1 _ h_).1; have := ORD.out; omega)⟩; have m0_ : Aside0 (Kd.S (Kd.slice 3 (Kd.int .i64)) 46 w_4 w.heap.size (fun k_ => w.heap.size ≤ k_) v_ ys) := ⟨ho_⟩; (try clear HT); (try clear HG); (try clear LS); (try clear HO); (try clear HL); have HT := n0_; have HG := n1_; have LS := n2_; have HO := m0_; clear n0_ n1_ n2_ m0_; clear ho_ hb_ hg_ hat_))
            go_roundg ki
            case measure => omega
            case rel => exact ⟨f + 1, ys, rfl, HI2, HJ2, HT, HG, LS, HO⟩
          · have e0 : (gw == x) = false := by simpa using hb
            have e0' : (x == gw) = false := by simpa using fun h_ : x = gw => hb h_.symm
            rw [vLits_neg _ _ _ (fun h_ => hb (hde.2 h_))] at hJ
            have HJ2 : Aside0 (xs ++ vLits (vOf e l) ((vFloors (f + 1 - 1) xh).map (fun g => (h, g)) ++ vFrom (vOf e l) (h + 1)) = r) := ⟨by
              rw [show f + 1 - 1 = f by omega]
              exact hJ⟩
            clear hd hde hgw hin hle HI hJ hb HF
            go_wp2_with (first | ((with_reducible refine gate_callee (f := 121) rfl ?_); refine goesL_ (some 33) rfl rfl Try.func121 (by kernel_rfl) rfl #[.slice (some ⟨tb, 0, none⟩) 5103 c0, .int .i64 e, .slice (some ad) l.length c, .int .i64 (h : Int), .int .i64 f] rfl (by (try simp only [List.map_toArray, List.map_cons, List.map_nil]); first | done | rfl) ?_; refine (HD.out (some ad) c _ HC.out LS.out HT.out).mono ?_; rintro e_ w_2 ⟨rfl, ht_, hg_⟩; refine ⟨_, rfl, ?_⟩; have n0_ : Aside0 (HTab w_2 tb c0) := ⟨ht_⟩; have n1_ : Aside0 (w.grownBy w_2 (some tb)) := ⟨World.grownBy.trans (by first | exact HG.out | exact Hx.g_drew HG.out | exact Hx.g_drewN HG.out _) hg_⟩; have n2_ : Aside0 (Lst w_2 tb (some ad) l) := ⟨Lst.grown LS.out hg_⟩; have n3_ : Aside0 (Kd.S (Kd.slice 3 (Kd.int .i64)) 46 w_2 w.heap.size (fun k_ => w.heap.size ≤ k_) u8 xs) := ⟨Kd.S_grown (row := some tb) HO.out hg_ (fun k_ hk_ h_ => by have := Option.some.inj h_; have := ORD.out; have h1_ : w.heap.size ≤ k_ := hk_; omega)⟩; (try clear HT); (try clear HG); (try clear LS); (try clear HO); have HT := n0_; have HG := n1_; have LS := n2_; have HO := n3_; clear n0_ n1_ n2_ n3_; clear ht_ hg_))
            go_roundg ki
            case measure => omega
            case rel => exact ⟨f + 1, xs, rfl, HI2, HJ2, HT, HG, LS, HO⟩
        · have d2 : decide (f ≤ xh) = false := decide_eq_false hle
          have HF2 : Aside0 (xs ++ vLits (vOf e l) (vFrom (vOf e l) (h + 1)) = r) := ⟨by
            have h_ := HF.out
            rw [vFloors_nil (by omega)] at h_
            exact h_⟩
          clear hle HF HI
          go_wp2
          go_roundg ko
          case measure => omega
          case rel => exact ⟨h + 1, xs, rfl, ⟨by have := HJ.out; omega⟩, HF2, HT, HG, LS, HO⟩
    · have d1 : decide ((h : Int) < (l.length : Int)) = false := decide_eq_false (by omega)
      have d1n : decide (h < l.length) = false := decide_eq_false hlt
      have hb : xs = r := by
        have h_ := HF.out
        rw [vFrom_end e h (by omega) ⟨HLG.out.1, HLG.out.2.1⟩] at h_
        simpa [vLits] using h_
      subst hb
      clear hlt HF
      go_wp2
      go_ret
      exact ⟨_, rfl, Kd.S_mono HO.out (fun _ _ => trivial), HT.out, HG.out⟩

theorem hoT_l1 (n : Nat) (hn : n ≤ 38416) : ∀ (d k i : Nat), d + i = n → d < k → spec_hoTable.l1 k (List.replicate i (-1) ++ List.replicate d 0) (n : Int) (i : Int) = some (List.replicate n (-1))
  | 0, k, i, h, hk => by
    obtain ⟨k, rfl⟩ : ∃ m, k = m + 1 := ⟨k - 1, by omega⟩
    rw [spec_hoTable.l1, if_neg (by omega)]
    have : i = n := by omega
    subst this
    simp
  | d + 1, k, i, h, hk => by
    obtain ⟨k, rfl⟩ : ∃ m, k = m + 1 := ⟨k - 1, by omega⟩
    rw [spec_hoTable.l1, if_pos (by omega), if_pos (by omega), if_pos (by simp; omega), Hw.wrap_id (by omega) (by omega)]
    have ih := hoT_l1 n hn d k (i + 1) (by omega) (by omega)
    have e : (List.replicate i (-1 : Int) ++ List.replicate (d + 1) 0).set i (-1) = List.replicate (i + 1) (-1) ++ List.replicate d 0 := by
      have h2 := Hw.set_next (List.replicate i (-1 : Int)) d 0 (-1)
      rw [List.length_replicate] at h2
      rw [h2, List.replicate_succ' (n := i)]
    rw [Int.toNat_natCast, e, show (i : Int) + 1 = ((i + 1 : Nat) : Int) by omega]
    exact ih
theorem hoT_all (n : Nat) (hn : n ≤ 38416) : spec_hoTable.l1 (n + 1) (List.replicate n 0) (n : Int) 0 = some (List.replicate n (-1)) := by
  have h := hoT_l1 n hn n (n + 1) 0 (by omega) (by omega)
  simpa using h
theorem hoTable_is : spec_hoTable.f 5108 = some (List.replicate 5103 (-1)) := by
  have w1 : wrap64 (0 + 1) = 1 := Hw.wrap_id (by omega) (by omega)
  have w2 : wrap64 (1 + 1) = 2 := Hw.wrap_id (by omega) (by omega)
  have w3 : wrap64 (2 + 1) = 3 := Hw.wrap_id (by omega) (by omega)
  have m1 : wrap64 (7 * 9) = 63 := Hw.wrap_id (by omega) (by omega)
  have m2 : wrap64 (63 * 9) = 567 := Hw.wrap_id (by omega) (by omega)
  have m3 : wrap64 (567 * 9) = 5103 := Hw.wrap_id (by omega) (by omega)
  unfold spec_hoTable.f
  rw [spec_hoTable.l0, if_pos (by omega), m1, w1, spec_hoTable.l0, if_pos (by omega), m2, w2, spec_hoTable.l0, if_pos (by omega), m3, w3, spec_hoTable.l0, if_neg (by omega), if_pos (by omega), if_pos (by omega), Option.bind_some, List.length_replicate]
  have e2 : (5103 : Int).toNat = 5103 := rfl
  rw [e2]
  exact hoT_all 5103 (by omega)
theorem htab_of {w : World} {b : Nat} {v : Value} (h : Kd.R (Kd.int .i64) 3 w b (fun _ => True) v (List.replicate 5103 (-1))) : ∃ tb c0 : Nat, v = .slice (some ⟨tb, 0, none⟩) 5103 c0 ∧ HTab w tb c0 ∧ b ≤ tb := by
  obtain ⟨g, cap, e, h1, h2, _⟩ := Kd.R_form h (by rw [List.length_replicate]; omega)
  rw [List.length_replicate] at e
  subst e
  refine ⟨g, cap, rfl, ⟨List.replicate 5103 (-1), ?_, fun k hk => .inl ?_⟩, h1⟩
  · obtain ⟨h0, inner, ho, hr⟩ := Kd.R_lower h (Nat.zero_le b)
    exact ⟨fun k hk => by simpa [Value.ownBlock] using hk.symm, inner, ho, hr⟩
  · rw [List.getElem?_replicate, if_pos (vPlace_lt hk)]
theorem lst_of {w w' : World} {A : Option Addr} {l : List Int} {tb : Nat} (h : Kd.C (Kd.int .i64) w A l.length l) (hl : 1 ≤ l.length) (hb : Below w.heap.size w w') (ht : w.heap.size ≤ tb) : Lst w' tb A l :=
  ⟨Kd.C_below h hb, fun ad ha => by subst ha; have := Kd.C_lt h (by omega) (by decide); omega⟩
def hoB (l : List Int) : Bool := decide (1 ≤ l.length) && decide (l.length ≤ 3) && l.all inHo
def hAsk (e : Int) (l : List Int) : Bool := hoB l && (decide ((vOf e l).need ≤ e) && decide (e ≤ 6))
theorem hoB_len {l : List Int} (h : hoB l = true) : 1 ≤ l.length ∧ l.length ≤ 3 := by
  unfold hoB at h
  simp only [Bool.and_eq_true, decide_eq_true_eq] at h
  exact h.1
theorem hoB_good {l : List Int} (h : hoB l = true) : LGood l := by
  unfold hoB at h
  simp only [Bool.and_eq_true, decide_eq_true_eq, List.all_eq_true] at h
  refine ⟨h.1.1, h.1.2, fun x hx => ?_⟩
  have h2 := h.2 x hx
  unfold inHo at h2
  simp only [Bool.and_eq_true, decide_eq_true_eq] at h2
  exact h2
theorem hAsk_good {e : Int} {l : List Int} (h : hAsk e l = true) : LGood l ∧ (0 ≤ e ∧ e ≤ 6) ∧ (vOf e l).need ≤ e := by
  unfold hAsk at h
  simp only [Bool.and_eq_true, decide_eq_true_eq] at h
  have := need_lo (vOf e l)
  exact ⟨hoB_good h.1, ⟨by omega, h.2.2⟩, h.2.1⟩
theorem eggsL_is (e : Int) {l : List Int} (hl : 1 ≤ l.length ∧ l.length ≤ 3) : impl_eggsNeeded.f 9 l = some (vOf e l).need := by
  have r0 : ∀ (a : Int) (l : List Int), rd (a :: l) 0 = a := fun _ _ => rfl
  have r1 : ∀ (a b : Int) (l : List Int), rd (a :: b :: l) 1 = b := fun _ _ _ => rfl
  have r2 : ∀ (a b c : Int) (l : List Int), rd (a :: b :: c :: l) 2 = c := fun _ _ _ _ => rfl
  have w1 : wrap64 1 = 1 := Hw.wrap_id (by omega) (by omega)
  have w2 : wrap64 2 = 2 := Hw.wrap_id (by omega) (by omega)
  have w3 : wrap64 3 = 3 := Hw.wrap_id (by omega) (by omega)
  unfold impl_eggsNeeded.f
  simp only [VS.need, vOf]
  rcases lcases hl with ⟨a, rfl⟩ | ⟨a, b, rfl⟩ | ⟨a, b, c, rfl⟩ <;> simp only [impl_eggsNeeded.l0] <;> unfold nz
  · by_cases h0 : a > 0 <;> simp [h0, r0, w1, w2, w3]
  · by_cases h0 : a > 0 <;> by_cases h1 : b > 0 <;> simp [h0, h1, r0, r1, w1, w2, w3]
  · by_cases h0 : a > 0 <;> by_cases h1 : b > 0 <;> by_cases h2 : c > 0 <;> simp [h0, h1, h2, r0, r1, r2, w1, w2, w3]
theorem stocked_is (e : Int) (l : List Int) : impl_isStocked.f 9 e l = some (hAsk e l) := by
  unfold impl_isStocked.f hAsk
  rw [show impl_AreHouses.f l = some (hoB l) from rfl, Option.bind_some]
  cases hb : hoB l with
  | false => simp
  | true => rw [if_pos rfl, eggsL_is e (hoB_len hb), Option.bind_some, ho_within, Option.bind_some, Bool.true_and]
theorem l1In_is (a b c : Int) : spec_l1In.f a b c = some (decide (b ≤ a) && decide (a ≤ c)) := by
  unfold spec_l1In.f
  split
  · rename_i h; rw [decide_eq_true (show b ≤ a from h), Bool.true_and]
  · rename_i h; rw [decide_eq_false (show ¬ b ≤ a from h), Bool.false_and]
theorem hoGood_is (l : List Int) : spec_hoGood.f 9 l = some (hoB l) := by
  have r0 : ∀ (a : Int) (l : List Int), rd (a :: l) 0 = a := fun _ _ => rfl
  have r1 : ∀ (a b : Int) (l : List Int), rd (a :: b :: l) 1 = b := fun _ _ _ => rfl
  have r2 : ∀ (a b c : Int) (l : List Int), rd (a :: b :: c :: l) 2 = c := fun _ _ _ _ => rfl
  have w1 : wrap64 1 = 1 := Hw.wrap_id (by omega) (by omega)
  have w2 : wrap64 2 = 2 := Hw.wrap_id (by omega) (by omega)
  have w3 : wrap64 3 = 3 := Hw.wrap_id (by omega) (by omega)
  unfold spec_hoGood.f hoB
  rw [l1In_is, Option.bind_some]
  by_cases hl : 1 ≤ l.length ∧ l.length ≤ 3
  · rw [if_pos (by simp; omega), decide_eq_true hl.1, decide_eq_true hl.2]
    simp only [Bool.true_and]
    unfold spec_l1All.f
    have hin : ∀ a, spec_l1In.f a 0 8 = some (inHo a) := fun a => l1In_is a 0 8
    rcases lcases hl with ⟨a, rfl⟩ | ⟨a, b, rfl⟩ | ⟨a, b, c, rfl⟩ <;> simp only [spec_l1All.l0, hin]
    · cases h0 : inHo a <;> simp [h0, r0, w1, w2, w3]
    · cases h0 : inHo a <;> cases h1 : inHo b <;> simp [h0, h1, r0, r1, w1, w2, w3]
    · cases h0 : inHo a <;> cases h1 : inHo b <;> cases h2 : inHo c <;> simp [h0, h1, h2, r0, r1, r2, w1, w2, w3]
  · have h1 : (decide (1 ≤ l.length) && decide (l.length ≤ 3)) = false := by
      cases hq : (decide (1 ≤ l.length) && decide (l.length ≤ 3)) with
      | false => rfl
      | true => simp at hq; omega
    rw [h1, if_neg (by simp; omega)]
    rfl
theorem asked_is (e : Int) (l : List Int) : spec_hoAsked.f 9 e l = some (hAsk e l) := by
  unfold spec_hoAsked.f hAsk
  rw [hoGood_is, Option.bind_some]
  cases hb : hoB l with
  | false => simp
  | true => rw [if_pos rfl, need_is e (hoB_len hb), Option.bind_some, l1In_is, Option.bind_some, Bool.true_and]
def goodH (e : Int) (l : List Int) : List (List Int) × Bool := if hAsk e l then (vLits (vOf e l) (vOf e l).tests, true) else ([], false)
theorem vill_of (e : Int) {l : List Int} (hl : 1 ≤ l.length ∧ l.length ≤ 3) (A : Option Addr) (cc : Nat) (w : World) (hC : Kd.C (Kd.int .i64) w A l.length l) :
    Calls Try.prog 87 #[.int .i64 e, .slice A l.length cc] w fun e_ w' => e_ = .returned (vCells (vOf e l)) ∧ Below w.heap.size w w' := by
  rcases lcases hl with ⟨a, rfl⟩ | ⟨a, b, rfl⟩ | ⟨a, b, c, rfl⟩
  · exact villageOf1 e A cc a w hC
  · exact villageOf2 e A cc a b w hC
  · exact villageOf3 e A cc a b c w hC
theorem hou_made (w : World) : Hou (w.alloc (.map #[] 0)) w.heap.size := Hm.Mem.made _ _ _ _ _


end Go.Proofs.Ytoomacelbhojhaa.U
