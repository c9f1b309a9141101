/- Plain Lean functions with the answers of Go functions, and proofs of it: printed by a program of this session (pr.py) over the kit's print, with hand-written parts. -/
import Derived.Test.YtoomacelbhojhaaUx0
namespace Go.Proofs.Ytoomacelbhojhaa.U
open Go.RowKit Go.Proofs.YtoomacelbhojhaaW.PrintWords Go.Proofs.YtoomacelbhojhaaW.PrintLast Go.Proofs.YtoomacelbhojhaaW.PrintMore
attribute [local go_sem] max2_int min2_int max_two min_two max_three min_three max_four min_four   -- for this text's walks alone
set_option linter.unusedVariables false
set_option linter.unusedSimpArgs false

-- FOR (impl.village).parts
-- USES kd int
-- USES info int
-- USES info []int
/-! ### The fewest drops for houses, as plain recursion -/
structure VS where
  x0 : Int
  x1 : Int
  x2 : Int
  e : Int
def vFloors (lo hi : Int) : List Int := (List.range (hi - lo).toNat).map fun i : Nat => lo + 1 + (i : Int)
theorem mem_vFloors {lo hi f : Int} : f ∈ vFloors lo hi ↔ lo < f ∧ f ≤ hi := by
  unfold vFloors
  simp only [List.mem_map, List.mem_range]
  constructor
  · rintro ⟨i, hi, rfl⟩; omega
  · intro h; exact ⟨(f - lo - 1).toNat, by omega, by omega⟩
theorem vFloors_nil {lo hi : Int} (h : hi ≤ lo) : vFloors lo hi = [] := by unfold vFloors; rw [show (hi - lo).toNat = 0 by omega]; rfl
theorem vFloors_cons {lo hi : Int} (h : lo < hi) : vFloors lo hi = (lo + 1) :: vFloors (lo + 1) hi := by
  unfold vFloors
  rw [show (hi - lo).toNat = (hi - (lo + 1)).toNat + 1 by omega, List.range_succ_eq_map, List.map_cons, List.map_map]
  congr 1
  · simp
  · refine List.map_congr_left fun i _ => ?_
    simp only [Function.comp]
    omega
def VGood (v : VS) : Prop := 0 ≤ v.x0 ∧ v.x0 ≤ 8 ∧ 0 ≤ v.x1 ∧ v.x1 ≤ 8 ∧ 0 ≤ v.x2 ∧ v.x2 ≤ 8 ∧ 0 ≤ v.e ∧ v.e ≤ 6
def nz (x : Int) : Int := if 0 < x then 1 else 0
def VS.need (v : VS) : Int := nz v.x0 + nz v.x1 + nz v.x2
def VS.ms (v : VS) : Nat := (v.x0 + v.x1 + v.x2).toNat
def VS.get (v : VS) (h : Nat) : Int := if h = 0 then v.x0 else if h = 1 then v.x1 else v.x2
def VS.brk (v : VS) (h : Nat) (f : Int) : VS := if h = 0 then ⟨f - 1, v.x1, v.x2, v.e - 1⟩ else if h = 1 then ⟨v.x0, f - 1, v.x2, v.e - 1⟩ else ⟨v.x0, v.x1, f - 1, v.e - 1⟩
def VS.whl (v : VS) (h : Nat) (f : Int) : VS := if h = 0 then ⟨v.x0 - f, v.x1, v.x2, v.e⟩ else if h = 1 then ⟨v.x0, v.x1 - f, v.x2, v.e⟩ else ⟨v.x0, v.x1, v.x2 - f, v.e⟩
def vRow (v : VS) (h : Nat) : List (Nat × Int) := (vFloors 0 (v.get h)).map fun f => (h, f)
/-- The drops of the houses from one on. -/
def vFrom (v : VS) (h : Nat) : List (Nat × Int) := if h = 0 then vRow v 0 ++ (vRow v 1 ++ vRow v 2) else if h = 1 then vRow v 1 ++ vRow v 2 else if h = 2 then vRow v 2 else []
def VS.tests (v : VS) : List (Nat × Int) := vFrom v 0
theorem vFrom_step (v : VS) (h : Nat) (hh : h < 3) : vFrom v h = vRow v h ++ vFrom v (h + 1) := by
  rcases (by omega : h = 0 ∨ h = 1 ∨ h = 2) with rfl | rfl | rfl <;> simp [vFrom]
def VIn (v : VS) (t : Nat × Int) : Prop := t.1 < 3 ∧ 1 ≤ t.2 ∧ t.2 ≤ v.get t.1
theorem mem_vRow {v : VS} {h : Nat} {t : Nat × Int} (hh : h < 3) (ht : t ∈ vRow v h) : VIn v t := by
  unfold vRow at ht
  obtain ⟨f, hf, rfl⟩ := List.mem_map.1 ht
  have := mem_vFloors.1 hf
  exact ⟨hh, by show 1 ≤ f; omega, this.2⟩
theorem mem_vTests {v : VS} {t : Nat × Int} (ht : t ∈ v.tests) : VIn v t := by
  unfold VS.tests vFrom at ht
  rw [if_pos rfl] at ht
  rcases List.mem_append.1 ht with h | h
  · exact mem_vRow (by omega) h
  · rcases List.mem_append.1 h with h | h
    · exact mem_vRow (by omega) h
    · exact mem_vRow (by omega) h
theorem vTests_mem {v : VS} {t : Nat × Int} (ht : VIn v t) : t ∈ v.tests := by
  obtain ⟨h, f⟩ := t
  obtain ⟨h1, h2, h3⟩ := ht
  simp only at h1 h2 h3
  have hr : (h, f) ∈ vRow v h := List.mem_map.2 ⟨f, mem_vFloors.2 ⟨by omega, h3⟩, rfl⟩
  unfold VS.tests vFrom
  rw [if_pos rfl]
  rcases (by omega : h = 0 ∨ h = 1 ∨ h = 2) with rfl | rfl | rfl
  · exact List.mem_append.2 (.inl hr)
  · exact List.mem_append.2 (.inr (List.mem_append.2 (.inl hr)))
  · exact List.mem_append.2 (.inr (List.mem_append.2 (.inr hr)))
/-- Something is to be found, and there are eggs. -/
def VOk (v : VS) : Prop := VGood v ∧ 1 ≤ v.need ∧ v.need ≤ v.e
theorem nz_bd (x : Int) : 0 ≤ nz x ∧ nz x ≤ 1 := by unfold nz; split <;> omega
theorem vAft {v : VS} (hv : VOk v) {t : Nat × Int} (ht : VIn v t) : (VGood (v.brk t.1 t.2) ∧ (v.brk t.1 t.2).ms < v.ms) ∧ (VGood (v.whl t.1 t.2) ∧ (v.whl t.1 t.2).ms < v.ms) := by
  obtain ⟨⟨g0, g1, g2, g3, g4, g5, g6, g7⟩, n1, n2⟩ := hv
  obtain ⟨h, f⟩ := t
  obtain ⟨t1, t2, t3⟩ := ht
  simp only at t1 t2 t3
  rcases (by omega : h = 0 ∨ h = 1 ∨ h = 2) with rfl | rfl | rfl <;> simp [VS.get] at t3 <;> refine ⟨⟨?_, ?_⟩, ?_, ?_⟩ <;> simp [VGood, VS.ms, VS.brk, VS.whl] <;> omega
def vNever : Int := 1125899906842624
def vFold (g : Nat × Int → Int) (z : Int) (l : List (Nat × Int)) : Int := l.foldl (fun o t => min o (g t)) z
theorem vFold_congr {g g' : Nat × Int → Int} (z : Int) (l : List (Nat × Int)) (h : ∀ t ∈ l, g t = g' t) : vFold g z l = vFold g' z l := by
  unfold vFold
  induction l generalizing z with
  | nil => rfl
  | cons t l ih =>
    rw [List.foldl_cons, List.foldl_cons, h t (by simp)]
    exact ih _ (fun u hu => h u (by simp [hu]))
theorem vFold_cons (g : Nat × Int → Int) (z : Int) (t : Nat × Int) (l : List (Nat × Int)) : vFold g z (t :: l) = vFold g (min z (g t)) l := rfl
def hG : Nat → VS → Int
  | 0, _ => 0
  | n + 1, v => if v.need = 0 then 0 else if v.e < v.need then vNever else vFold (fun t => 1 + max (hG n (v.brk t.1 t.2)) (hG n (v.whl t.1 t.2))) vNever v.tests
theorem need_zero {v : VS} (hv : VGood v) (h : v.ms = 0) : v.need = 0 := by
  unfold VGood at hv
  unfold VS.ms at h
  unfold VS.need nz
  rw [if_neg (by omega), if_neg (by omega), if_neg (by omega)]
  rfl
theorem hG_stable : ∀ (n m : Nat) (v : VS), VGood v → v.ms ≤ n → v.ms ≤ m → hG n v = hG m v := by
  have hz : ∀ (m : Nat) (v : VS), VGood v → v.ms ≤ 0 → hG m v = 0 := by
    intro m v hv h
    cases m with
    | zero => rfl
    | succ m => simp [hG, need_zero hv (by omega)]
  intro n
  induction n with
  | zero => intro m v hv h1 h2; rw [hz m v hv h1]; rfl
  | succ n ih =>
    intro m v hv h1 h2
    cases m with
    | zero => rw [hz (n + 1) v hv h2]; rfl
    | succ m =>
      simp only [hG]
      by_cases c1 : v.need = 0
      · rw [if_pos c1, if_pos c1]
      · rw [if_neg c1, if_neg c1]
        by_cases c2 : v.e < v.need
        · rw [if_pos c2, if_pos c2]
        · rw [if_neg c2, if_neg c2]
          have hok : VOk v := ⟨hv, by have := nz_bd v.x0; have := nz_bd v.x1; have := nz_bd v.x2; unfold VS.need at c1 ⊢; omega, by omega⟩
          refine vFold_congr _ _ fun t ht => ?_
          have a := vAft hok (mem_vTests ht)
          rw [ih m _ a.1.1 (by omega) (by omega), ih m _ a.2.1 (by omega) (by omega)]
def hI (v : VS) : Int := hG v.ms v
def hWt (v : VS) (t : Nat × Int) : Int := 1 + max (hI (v.brk t.1 t.2)) (hI (v.whl t.1 t.2))
theorem hI_zero {v : VS} (h : v.need = 0) : hI v = 0 := by
  unfold hI
  cases v.ms <;> simp [hG, h]
theorem need_lo (v : VS) : 0 ≤ v.need := by unfold VS.need; have := nz_bd v.x0; have := nz_bd v.x1; have := nz_bd v.x2; omega
theorem ms_pos {v : VS} (hv : VGood v) (h : v.need ≠ 0) : v.ms ≠ 0 := fun h2 => h (need_zero hv h2)
theorem hI_never {v : VS} (hv : VGood v) (h : v.need ≠ 0) (h2 : v.e < v.need) : hI v = vNever := by
  unfold hI
  have := ms_pos hv h
  obtain ⟨m, hm⟩ : ∃ m, v.ms = m + 1 := ⟨v.ms - 1, by omega⟩
  rw [hm]
  simp [hG, h, h2]
theorem hI_eq {v : VS} (hv : VOk v) : hI v = vFold (hWt v) vNever v.tests := by
  have h1 : hI v = hG (v.ms + 1) v := hG_stable _ _ _ hv.1 (Nat.le_refl _) (Nat.le_succ _)
  rw [h1]
  simp only [hG]
  rw [if_neg (by have := hv.2.1; omega), if_neg (by have := hv.2.2; omega)]
  refine vFold_congr _ _ fun t ht => ?_
  have a := vAft hv (mem_vTests ht)
  unfold hWt hI
  rw [hG_stable v.ms _ _ a.1.1 (by omega) (Nat.le_refl _), hG_stable v.ms _ _ a.2.1 (by omega) (Nat.le_refl _)]
theorem vFold_le (g : Nat × Int → Int) (z : Int) (l : List (Nat × Int)) : vFold g z l ≤ z ∧ ∀ t ∈ l, vFold g z l ≤ g t := by
  unfold vFold
  induction l generalizing z with
  | nil => simp
  | cons t l ih =>
    rw [List.foldl_cons]
    have h := ih (min z (g t))
    refine ⟨by have := h.1; omega, fun u hu => ?_⟩
    rcases List.mem_cons.1 hu with rfl | hu
    · have := h.1; omega
    · exact h.2 u hu
theorem vFold_ge (g : Nat × Int → Int) (z m : Int) (l : List (Nat × Int)) (hz : m ≤ z) (h : ∀ t ∈ l, m ≤ g t) : m ≤ vFold g z l := by
  unfold vFold
  induction l generalizing z with
  | nil => exact hz
  | cons t l ih =>
    rw [List.foldl_cons]
    exact ih _ (by have := h t (by simp); omega) (fun u hu => h u (by simp [hu]))
theorem vFold_at (g : Nat × Int → Int) (z : Int) (l : List (Nat × Int)) : vFold g z l = z ∨ ∃ t ∈ l, g t = vFold g z l := by
  unfold vFold
  induction l generalizing z with
  | nil => exact .inl rfl
  | cons t l ih =>
    rw [List.foldl_cons]
    rcases ih (min z (g t)) with h | ⟨u, hu, h⟩
    · rcases Int.le_total z (g t) with h2 | h2
      · exact .inl (h.trans (by omega))
      · exact .inr ⟨t, by simp, by rw [h]; omega⟩
    · exact .inr ⟨u, by simp [hu], h⟩
theorem hG_lo (n : Nat) (v : VS) : 0 ≤ hG n v := by
  induction n generalizing v with
  | zero => exact Int.le_refl _
  | succ n ih =>
    unfold hG
    split
    · exact Int.le_refl _
    · split
      · decide
      · exact vFold_ge _ _ _ _ (by decide) (fun t _ => by have := ih (v.brk t.1 t.2); omega)
theorem hI_lo (v : VS) : 0 ≤ hI v := hG_lo _ _
theorem hG_hi (n : Nat) (v : VS) : hG n v ≤ vNever := by
  cases n with
  | zero => exact (by decide : (0 : Int) ≤ vNever)
  | succ n =>
    unfold hG
    split
    · decide
    · split
      · exact Int.le_refl _
      · exact (vFold_le _ _ _).1
theorem hI_hi (v : VS) : hI v ≤ vNever := hG_hi _ _
theorem hWt_lo (v : VS) (t : Nat × Int) : 1 ≤ hWt v t := by unfold hWt; have := hI_lo (v.brk t.1 t.2); omega
theorem hWt_hi (v : VS) (t : Nat × Int) : hWt v t ≤ vNever + 1 := by unfold hWt; have := hI_hi (v.brk t.1 t.2); have := hI_hi (v.whl t.1 t.2); omega
theorem hI_pos {v : VS} (hv : VOk v) : 1 ≤ hI v := by
  rw [hI_eq hv]
  exact vFold_ge _ _ _ _ (by decide) (fun t _ => hWt_lo v t)
theorem hI_able : ∀ (n : Nat) (v : VS), VGood v → v.need ≤ v.e → v.ms ≤ n → hI v ≤ v.ms
  | 0, v, hv, _, h => by rw [hI_zero (need_zero hv (by omega))]; omega
  | n + 1, v, hv, he, h => by
    by_cases c1 : v.need = 0
    · rw [hI_zero c1]; omega
    · have hn := need_lo v
      have hok : VOk v := ⟨hv, by omega, he⟩
      rw [hI_eq hok]
      have key : ∀ t, VIn v t → (v.brk t.1 t.2).need ≤ (v.brk t.1 t.2).e → (v.whl t.1 t.2).need ≤ (v.whl t.1 t.2).e → vFold (hWt v) vNever v.tests ≤ v.ms := by
        intro t ht b0 b1
        have a := vAft hok ht
        have i0 := hI_able n _ a.1.1 b0 (by omega)
        have i1 := hI_able n _ a.2.1 b1 (by omega)
        have h_ := (vFold_le (hWt v) vNever v.tests).2 t (vTests_mem ht)
        unfold hWt at h_ ⊢
        omega
      have hnz : ∀ x : Int, 0 < x → nz x = 1 := fun x hx => if_pos hx
      have hnz0 : nz 0 = 0 := rfl
      by_cases q0 : 0 < v.x0
      · refine key (0, 1) ⟨by decide, by decide, by show 1 ≤ v.get 0; simp [VS.get]; omega⟩ ?_ ?_
        · have := hnz v.x0 q0
          simp [VS.brk, VS.need, hnz0] at he ⊢
          omega
        · have := nz_bd (v.x0 - 1)
          have := hnz v.x0 q0
          simp [VS.whl, VS.need] at he ⊢
          omega
      · by_cases q1 : 0 < v.x1
        · refine key (1, 1) ⟨by decide, by decide, by show 1 ≤ v.get 1; simp [VS.get]; omega⟩ ?_ ?_
          · have := hnz v.x1 q1
            simp [VS.brk, VS.need, hnz0] at he ⊢
            omega
          · have := nz_bd (v.x1 - 1)
            have := hnz v.x1 q1
            simp [VS.whl, VS.need] at he ⊢
            omega
        · by_cases q2 : 0 < v.x2
          · refine key (2, 1) ⟨by decide, by decide, by show 1 ≤ v.get 2; simp [VS.get]; omega⟩ ?_ ?_
            · have := hnz v.x2 q2
              simp [VS.brk, VS.need, hnz0] at he ⊢
              omega
            · have := nz_bd (v.x2 - 1)
              have := hnz v.x2 q2
              simp [VS.whl, VS.need] at he ⊢
              omega
          · exfalso
            apply c1
            unfold VS.need nz
            rw [if_neg q0, if_neg q1, if_neg q2]
            rfl
/-- All drops with which a plan with the fewest drops may begin. -/
def vGood (v : VS) : List (Nat × Int) := v.tests.filter fun t => decide (hWt v t = hI v)
theorem vGood_ne {v : VS} (hv : VOk v) : vGood v ≠ [] := by
  have h1 := hI_able v.ms v hv.1 hv.2.2 (Nat.le_refl _)
  have hms : v.ms ≤ 24 := by have := hv.1; unfold VGood at this; unfold VS.ms; omega
  have he := hI_eq hv
  rcases vFold_at (hWt v) vNever v.tests with h | ⟨t, ht, h⟩
  · rw [← he] at h
    exact absurd h (by have : (1000 : Int) < vNever := by decide
                       omega)
  · rw [← he] at h
    intro hc
    have : t ∈ vGood v := List.mem_filter.2 ⟨ht, by simpa using h⟩
    rw [hc] at this
    cases this
/-! ### The houser: a map that remembers -/
open Hm
instance (v : VS) : Decidable (VGood v) := by unfold VGood; infer_instance
def vCells (v : VS) : Value := .agg #[.int .i64 v.x0, .int .i64 v.x1, .int .i64 v.x2, .int .i64 v.e]
def vI : Value → Option Int
  | .agg cs => match cs.toList with
    | [.int .i64 a, .int .i64 b, .int .i64 c, .int .i64 d] => if VGood ⟨a, b, c, d⟩ then some (hI ⟨a, b, c, d⟩) else none
    | _ => none
  | _ => none
def vPlace (v : VS) : Nat := (((v.e * 9 + v.x0) * 9 + v.x1) * 9 + v.x2).toNat
theorem vPlace_lt {v : VS} (h : VGood v) : vPlace v < 5103 := by unfold VGood at h; unfold vPlace; omega
theorem vPlace_inj {v u : VS} (hv : VGood v) (hu : VGood u) (h : vPlace v = vPlace u) : v = u := by
  obtain ⟨a, b, c, d⟩ := v
  obtain ⟨a', b', c', d'⟩ := u
  simp only [VGood] at hv hu
  simp only [vPlace] at h
  have h0 : ((d * 9 + a) * 9 + b) * 9 + c = ((d' * 9 + a') * 9 + b') * 9 + c' := by omega
  have e1 : c = c' ∧ (d * 9 + a) * 9 + b = (d' * 9 + a') * 9 + b' := by omega
  have e2 : b = b' ∧ d * 9 + a = d' * 9 + a' := by omega
  have e3 : a = a' ∧ d = d' := by omega
  rw [e1.1, e2.1, e3.1, e3.2]
def vPl : Value → Nat
  | .agg cs => match cs.toList with
    | [.int .i64 a, .int .i64 b, .int .i64 c, .int .i64 d] => vPlace ⟨a, b, c, d⟩
    | _ => 0
  | _ => 0
theorem vI_is (v : VS) (h : VGood v) : vI (vCells v) = some (hI v) := by simp [vI, vCells, h]
theorem vI_inv {x : Value} {n : Int} (h : vI x = some n) : ∃ v, VGood v ∧ x = vCells v ∧ vPl x = vPlace v := by
  unfold vI at h
  split at h
  · rename_i cs
    split at h
    · rename_i a b c d hc
      split at h
      · rename_i hg
        exact ⟨⟨a, b, c, d⟩, hg, by unfold vCells; congr 1; exact Array.toList_inj.1 (hc.trans rfl), by simp [vPl, hc]⟩
      · cases h
    · cases h
  · cases h
theorem vKeyed : Maps.Keyed Try.prog 101 := Maps.Keyed.of_law (deep_law_laid (by kernel_rfl) (m := 3) (by omega) (of_decide_eq_true (by kernel_rfl)) (by kernel_rfl) (by kernel_rfl))
theorem wf_v {n : Int} (h0 : -9223372036854775808 ≤ n) (h1 : n ≤ 9223372036854775807) : (Lit.int .i64 n).wf = true := by
  have e0 : IntKind.i64.min = -9223372036854775808 := by rfl
  have e1 : IntKind.i64.max = 9223372036854775807 := by rfl
  simp [Lit.wf, e0, e1]
  omega
theorem vKey_gen (P : Program) (m : Nat) (hu : P.underlying 101 = Try.prog.underlying 101) (hu2 : P.underlying 99 = Try.prog.underlying 99) (h0 : P.underlying 3 = some (.int .i64)) (h1 : P.keyType 101 = true) (h2 : P.cellsOf 101 = 4) (h3 : P.cellsOf 3 = 1) (h4 : P.cellsOf 99 = 3) (hm : P.types.size = m + 2) (v : VS) (h : VGood v) :
    ∃ kl, keyOf P 101 (vCells v) = some kl := by
  rw [Try.underlying101] at hu
  rw [Try.underlying99] at hu2
  have wa := wf_v (n := v.x0) (by unfold VGood at h; omega) (by unfold VGood at h; omega)
  have wb := wf_v (n := v.x1) (by unfold VGood at h; omega) (by unfold VGood at h; omega)
  have wc := wf_v (n := v.x2) (by unfold VGood at h; omega) (by unfold VGood at h; omega)
  have wd := wf_v (n := v.e) (by unfold VGood at h; omega) (by unfold VGood at h; omega)
  refine Option.isSome_iff_exists.1 ?_
  unfold keyOf
  simp only [hu, h1, vCells]
  have hr3 : List.range 3 = [0, 1, 2] := rfl
  simp [Value.formed, hu, hu2, h2, h3, h4, Value.cells, Program.keyLits, hm, h0, wa, wb, wc, wd, hr3]
theorem vKey (v : VS) (h : VGood v) : ∃ kl, keyOf Try.prog 101 (vCells v) = some kl := by
  obtain ⟨m, hm⟩ : ∃ m, Try.prog.types.size = m + 2 := by
    have h4 : 1 < Try.prog.types.size := of_decide_eq_true (by kernel_rfl)
    exact ⟨Try.prog.types.size - 2, by omega⟩
  exact vKey_gen _ m rfl rfl Try.underlying3 (by kernel_rfl) (by kernel_rfl) (by kernel_rfl) (by kernel_rfl) hm v h
def Hou (w : World) (mb : Nat) : Prop := Mem Try.prog 101 3 vI w mb
def vOf (e : Int) (l : List Int) : VS := ⟨l.getD 0 0, l.getD 1 0, l.getD 2 0, e⟩

set_option maxHeartbeats 8000000 in
set_option maxRecDepth 100000 in
theorem parts0.calls (x0 x1 x2 e f : Int) (w : World) (hx : f ≤ x0 ∧ 1 ≤ f ∧ x0 ≤ 8 ∧ 0 ≤ e ∧ e ≤ 6) :
    Calls Try.prog 127 #[.agg #[.int .i64 x0, .int .i64 x1, .int .i64 x2, .int .i64 e], .int .i64 0, .int .i64 f] w fun e_ w' => e_ = .returned (.tuple #[.agg #[.int .i64 (f - 1), .int .i64 x1, .int .i64 x2, .int .i64 (e - 1)], .agg #[.int .i64 (x0 - f), .int .i64 x1, .int .i64 x2, .int .i64 e]]) ∧ Below w.heap.size w w' := by
  have HB := Aside0.mk (Below.refl w.heap.size w)
  have wf1 : IntKind.i64.wrap (f - 1) = f - 1 := Hw.wrap_w (by omega) (by omega)
  have we1 : IntKind.i64.wrap (e - 1) = e - 1 := Hw.wrap_w (by omega) (by omega)
  have wx1 : IntKind.i64.wrap (x0 - f) = x0 - f := Hw.wrap_w (by omega) (by omega)
  clear hx
  go_enter Try.func127, Try.ntmps127
  go_upto_region 1 with (first | ((with_reducible refine gate_dst (N := 3) rfl ?_); refine box_event ?hg (N := 3) ?hd (cs := #[.int .i64 x0, .int .i64 x1, .int .i64 x2, .int .i64 e]) (t := 101) ?hr ?_; (case hd => rfl); (case hg => rfl); (case hr => first | (go_simp; done) | (go_simp; rfl)); intro gB3 hg_ w_gB3 BK_ hb_; have ORD_ : Aside0 ((True) ∧ (w.heap.size ≤ gB3)) := ⟨by refine ⟨trivial, ?_⟩; (have := HB.out.size); omega⟩; have ORD := ORD_; clear ORD_; have n0_ : Aside0 (Below w.heap.size w w_gB3) := ⟨Hx.bb_below hb_ (by first | exact HB.out | exact below_drew1 HB.out | exact pw_below_drewN HB.out _)⟩; have m0_ : Aside0 (w_gB3.heap[gB3]? = some (.cells #[.int .i64 x0, .int .i64 x1, .int .i64 x2, .int .i64 e] 101 (0, 0))) := ⟨BK_⟩; (try clear HB); have HB := n0_; have B3 := m0_; clear n0_ m0_; have cB3_0 : w_gB3.cell? ⟨gB3, 0, none⟩ = some (.int .i64 x0) := (blk_cell B3.out 0).trans rfl; have dB3_0 := blk_frozen B3.out 0; have cB3_1 : w_gB3.cell? ⟨gB3, 1, none⟩ = some (.int .i64 x1) := (blk_cell B3.out 1).trans rfl; have dB3_1 := blk_frozen B3.out 1; have cB3_2 : w_gB3.cell? ⟨gB3, 2, none⟩ = some (.int .i64 x2) := (blk_cell B3.out 2).trans rfl; have dB3_2 := blk_frozen B3.out 2; have cB3_3 : w_gB3.cell? ⟨gB3, 3, none⟩ = some (.int .i64 e) := (blk_cell B3.out 3).trans rfl; have dB3_3 := blk_frozen B3.out 3; clear hg_ BK_ hb_) | ((with_reducible refine gate_dst (N := 6) rfl ?_); refine box_event ?hg (N := 6) ?hd (cs := #[.int .i64 0, .int .i64 0, .int .i64 0, .int .i64 0]) (t := 101) ?hr ?_; (case hd => rfl); (case hg => rfl); (case hr => first | (go_simp; done) | (go_simp; rfl)); intro gB6 hg_ w_gB6 BK_ hb_; have ORD_ : Aside0 (((True) ∧ (w.heap.size ≤ gB3)) ∧ (gB3 < gB6 ∧ w.heap.size ≤ gB6)) := ⟨by refine ⟨ORD.out, ?_⟩; (have := HB.out.size); (have := blk_lt B3.out); omega⟩; clear ORD; have ORD := ORD_; clear ORD_; have n0_ : Aside0 (Below w.heap.size w w_gB6) := ⟨Hx.bb_below hb_ (by first | exact HB.out | exact below_drew1 HB.out | exact pw_below_drewN HB.out _)⟩; have n1_ : Aside0 (w_gB6.heap[gB3]? = some (.cells #[.int .i64 x0, .int .i64 x1, .int .i64 x2, .int .i64 e] 101 (0, 0))) := ⟨Hx.b_below hb_ B3.out⟩; have m0_ : Aside0 (w_gB6.heap[gB6]? = some (.cells #[.int .i64 0, .int .i64 0, .int .i64 0, .int .i64 0] 101 (0, 0))) := ⟨BK_⟩; (try clear cB3_0 dB3_0 cB3_1 dB3_1 cB3_2 dB3_2 cB3_3 dB3_3); (try clear HB); (try clear B3); have HB := n0_; have B3 := n1_; have B6 := m0_; clear n0_ n1_ m0_; have cB3_0 : w_gB6.cell? ⟨gB3, 0, none⟩ = some (.int .i64 x0) := (blk_cell B3.out 0).trans rfl; have dB3_0 := blk_frozen B3.out 0; have cB3_1 : w_gB6.cell? ⟨gB3, 1, none⟩ = some (.int .i64 x1) := (blk_cell B3.out 1).trans rfl; have dB3_1 := blk_frozen B3.out 1; have cB3_2 : w_gB6.cell? ⟨gB3, 2, none⟩ = some (.int .i64 x2) := (blk_cell B3.out 2).trans rfl; have dB3_2 := blk_frozen B3.out 2; have cB3_3 : w_gB6.cell? ⟨gB3, 3, none⟩ = some (.int .i64 e) := (blk_cell B3.out 3).trans rfl; have dB3_3 := blk_frozen B3.out 3; have cB6_0 : w_gB6.cell? ⟨gB6, 0, none⟩ = some (.int .i64 0) := (blk_cell B6.out 0).trans rfl; have dB6_0 := blk_frozen B6.out 0; have cB6_1 : w_gB6.cell? ⟨gB6, 1, none⟩ = some (.int .i64 0) := (blk_cell B6.out 1).trans rfl; have dB6_1 := blk_frozen B6.out 1; have cB6_2 : w_gB6.cell? ⟨gB6, 2, none⟩ = some (.int .i64 0) := (blk_cell B6.out 2).trans rfl; have dB6_2 := blk_frozen B6.out 2; have cB6_3 : w_gB6.cell? ⟨gB6, 3, none⟩ = some (.int .i64 0) := (blk_cell B6.out 3).trans rfl; have dB6_3 := blk_frozen B6.out 3; clear hg_ BK_ hb_) | ((with_reducible refine gate_dst (N := 7) rfl ?_); refine box_event ?hg (N := 7) ?hd (cs := #[.int .i64 0, .int .i64 0, .int .i64 0, .int .i64 0]) (t := 101) ?hr ?_; (case hd => rfl); (case hg => rfl); (case hr => first | (go_simp; done) | (go_simp; rfl)); intro gB7 hg_ w_gB7 BK_ hb_; have ORD_ : Aside0 ((((True) ∧ (w.heap.size ≤ gB3)) ∧ (gB3 < gB6 ∧ w.heap.size ≤ gB6)) ∧ (gB3 < gB7 ∧ gB6 < gB7 ∧ w.heap.size ≤ gB7)) := ⟨by refine ⟨ORD.out, ?_⟩; (have := HB.out.size); (have := blk_lt B3.out); (have := blk_lt B6.out); omega⟩; clear ORD; have ORD := ORD_; clear ORD_; have n0_ : Aside0 (Below w.heap.size w w_gB7) := ⟨Hx.bb_below hb_ (by first | exact HB.out | exact below_drew1 HB.out | exact pw_below_drewN HB.out _)⟩; have n1_ : Aside0 (w_gB7.heap[gB3]? = some (.cells #[.int .i64 x0, .int .i64 x1, .int .i64 x2, .int .i64 e] 101 (0, 0))) := ⟨Hx.b_below hb_ B3.out⟩; have n2_ : Aside0 (w_gB7.heap[gB6]? = some (.cells #[.int .i64 0, .int .i64 0, .int .i64 0, .int .i64 0] 101 (0, 0))) := ⟨Hx.b_below hb_ B6.out⟩; have m0_ : Aside0 (w_gB7.heap[gB7]? = some (.cells #[.int .i64 0, .int .i64 0, .int .i64 0, .int .i64 0] 101 (0, 0))) := ⟨BK_⟩; (try clear cB3_0 dB3_0 cB3_1 dB3_1 cB3_2 dB3_2 cB3_3 dB3_3 cB6_0 dB6_0 cB6_1 dB6_1 cB6_2 dB6_2 cB6_3 dB6_3); (try clear HB); (try clear B3); (try clear B6); have HB := n0_; have B3 := n1_; have B6 := n2_; have B7 := m0_; clear n0_ n1_ n2_ m0_; have cB3_0 : w_gB7.cell? ⟨gB3, 0, none⟩ = some (.int .i64 x0) := (blk_cell B3.out 0).trans rfl; have dB3_0 := blk_frozen B3.out 0; have cB3_1 : w_gB7.cell? ⟨gB3, 1, none⟩ = some (.int .i64 x1) := (blk_cell B3.out 1).trans rfl; have dB3_1 := blk_frozen B3.out 1; have cB3_2 : w_gB7.cell? ⟨gB3, 2, none⟩ = some (.int .i64 x2) := (blk_cell B3.out 2).trans rfl; have dB3_2 := blk_frozen B3.out 2; have cB3_3 : w_gB7.cell? ⟨gB3, 3, none⟩ = some (.int .i64 e) := (blk_cell B3.out 3).trans rfl; have dB3_3 := blk_frozen B3.out 3; have cB6_0 : w_gB7.cell? ⟨gB6, 0, none⟩ = some (.int .i64 0) := (blk_cell B6.out 0).trans rfl; have dB6_0 := blk_frozen B6.out 0; have cB6_1 : w_gB7.cell? ⟨gB6, 1, none⟩ = some (.int .i64 0) := (blk_cell B6.out 1).trans rfl; have dB6_1 := blk_frozen B6.out 1; have cB6_2 : w_gB7.cell? ⟨gB6, 2, none⟩ = some (.int .i64 0) := (blk_cell B6.out 2).trans rfl; have dB6_2 := blk_frozen B6.out 2; have cB6_3 : w_gB7.cell? ⟨gB6, 3, none⟩ = some (.int .i64 0) := (blk_cell B6.out 3).trans rfl; have dB6_3 := blk_frozen B6.out 3; have cB7_0 : w_gB7.cell? ⟨gB7, 0, none⟩ = some (.int .i64 0) := (blk_cell B7.out 0).trans rfl; have dB7_0 := blk_frozen B7.out 0; have cB7_1 : w_gB7.cell? ⟨gB7, 1, none⟩ = some (.int .i64 0) := (blk_cell B7.out 1).trans rfl; have dB7_1 := blk_frozen B7.out 1; have cB7_2 : w_gB7.cell? ⟨gB7, 2, none⟩ = some (.int .i64 0) := (blk_cell B7.out 2).trans rfl; have dB7_2 := blk_frozen B7.out 2; have cB7_3 : w_gB7.cell? ⟨gB7, 3, none⟩ = some (.int .i64 0) := (blk_cell B7.out 3).trans rfl; have dB7_3 := blk_frozen B7.out 3; clear hg_ BK_ hb_))
  go_region_held3 (fun w' => w'.cell? ⟨gB3, 0, none⟩ = some (.int .i64 x0) ∧ w'.cell? ⟨gB3, 1, none⟩ = some (.int .i64 x1) ∧ w'.cell? ⟨gB3, 2, none⟩ = some (.int .i64 x2) ∧ w'.cell? ⟨gB3, 3, none⟩ = some (.int .i64 e)) (first | exact ⟨(blk_cell (B3.out) 0).trans rfl, (blk_cell (B3.out) 1).trans rfl, (blk_cell (B3.out) 2).trans rfl, (blk_cell (B3.out) 3).trans rfl⟩ | exact ⟨(blk_cell (blk_alloc B3.out _) 0).trans rfl, (blk_cell (blk_alloc B3.out _) 1).trans rfl, (blk_cell (blk_alloc B3.out _) 2).trans rfl, (blk_cell (blk_alloc B3.out _) 3).trans rfl⟩ | exact ⟨(blk_cell (blk_alloc (blk_alloc B3.out _) _) 0).trans rfl, (blk_cell (blk_alloc (blk_alloc B3.out _) _) 1).trans rfl, (blk_cell (blk_alloc (blk_alloc B3.out _) _) 2).trans rfl, (blk_cell (blk_alloc (blk_alloc B3.out _) _) 3).trans rfl⟩ | exact ⟨(blk_cell (blk_far (blk_alloc B3.out _) (show gB3 ≠ w_gB7.heap.size by have := blk_lt B3.out; omega) _) 0).trans rfl, (blk_cell (blk_far (blk_alloc B3.out _) (show gB3 ≠ w_gB7.heap.size by have := blk_lt B3.out; omega) _) 1).trans rfl, (blk_cell (blk_far (blk_alloc B3.out _) (show gB3 ≠ w_gB7.heap.size by have := blk_lt B3.out; omega) _) 2).trans rfl, (blk_cell (blk_far (blk_alloc B3.out _) (show gB3 ≠ w_gB7.heap.size by have := blk_lt B3.out; omega) _) 3).trans rfl⟩) (fail)
  all_goals
    have F2 := Hz.two_alloc w_gB7 (.cells #[.int .i64 x0, .int .i64 x1, .int .i64 x2, .int .i64 e] 101) (.cells #[.int .i64 x0, .int .i64 x1, .int .i64 x2, .int .i64 e] 101)
    have ln := blk_lt B3.out
    have ln6 := blk_lt B6.out
    have ln7 := blk_lt B7.out
    have G3 := blk_alloc (blk_alloc B3.out (.cells #[.int .i64 x0, .int .i64 x1, .int .i64 x2, .int .i64 e] 101)) (.cells #[.int .i64 x0, .int .i64 x1, .int .i64 x2, .int .i64 e] 101)
    have G6 := blk_alloc (blk_alloc B6.out (.cells #[.int .i64 x0, .int .i64 x1, .int .i64 x2, .int .i64 e] 101)) (.cells #[.int .i64 x0, .int .i64 x1, .int .i64 x2, .int .i64 e] 101)
    have G7 := blk_alloc (blk_alloc B7.out (.cells #[.int .i64 x0, .int .i64 x1, .int .i64 x2, .int .i64 e] 101)) (.cells #[.int .i64 x0, .int .i64 x1, .int .i64 x2, .int .i64 e] 101)
    have GB := below_drew1 (below_alloc (below_alloc HB.out (.cells #[.int .i64 x0, .int .i64 x1, .int .i64 x2, .int .i64 e] 101)) (.cells #[.int .i64 x0, .int .i64 x1, .int .i64 x2, .int .i64 e] 101))
    replace G3 := blk_drew G3
    replace G6 := blk_drew G6
    replace G7 := blk_drew G7
    clear B3 B6 B7 HB cB3_0 dB3_0 cB3_1 dB3_1 cB3_2 dB3_2 cB3_3 dB3_3 cB6_0 dB6_0 cB6_1 dB6_1 cB6_2 dB6_2 cB6_3 dB6_3 cB7_0 dB7_0 cB7_1 dB7_1 cB7_2 dB7_2 cB7_3 dB7_3
    generalize ((w_gB7.alloc (.cells #[.int .i64 x0, .int .i64 x1, .int .i64 x2, .int .i64 e] 101)).alloc (.cells #[.int .i64 x0, .int .i64 x1, .int .i64 x2, .int .i64 e] 101)).drew = wA at F2 G3 G6 G7 GB ⊢
    obtain ⟨G8, G9⟩ := F2
  focus
    obtain ⟨g9, e9⟩ : ∃ g_, g_ = w_gB7.heap.size + 1 := ⟨_, rfl⟩
    obtain ⟨g8, e8⟩ : ∃ g_, g_ = w_gB7.heap.size := ⟨_, rfl⟩
    rw [← e9] at G9 ⊢
    rw [← e8] at G8 ⊢
    have B8 := Aside0.mk G8
    have B9 := Aside0.mk G9
    have B3 := Aside0.mk G3
    have B6 := Aside0.mk G6
    have B7 := Aside0.mk G7
    have HB := Aside0.mk GB
    have ORD2 : Aside0 (w.heap.size ≤ gB3 ∧ gB3 < gB6 ∧ gB6 < gB7 ∧ gB7 < g8 ∧ gB7 < g9 ∧ g8 ≠ g9) := ⟨by have := ORD.out; omega⟩
    clear G3 G6 G7 G8 G9 GB ln ln6 ln7 ORD e8 e9
    have ORD := ORD2
    clear ORD2
  rotate_left
  focus
    obtain ⟨g8, e8⟩ : ∃ g_, g_ = w_gB7.heap.size + 1 := ⟨_, rfl⟩
    obtain ⟨g9, e9⟩ : ∃ g_, g_ = w_gB7.heap.size := ⟨_, rfl⟩
    rw [← e8] at G9 ⊢
    rw [← e9] at G8 ⊢
    have B8 := Aside0.mk G9
    have B9 := Aside0.mk G8
    have B3 := Aside0.mk G3
    have B6 := Aside0.mk G6
    have B7 := Aside0.mk G7
    have HB := Aside0.mk GB
    have ORD2 : Aside0 (w.heap.size ≤ gB3 ∧ gB3 < gB6 ∧ gB6 < gB7 ∧ gB7 < g8 ∧ gB7 < g9 ∧ g8 ≠ g9) := ⟨by have := ORD.out; omega⟩
    clear G3 G6 G7 G8 G9 GB ln ln6 ln7 ORD e8 e9
    have ORD := ORD2
    clear ORD2
  all_goals
    have cB3_0 : wA.cell? ⟨gB3, 0, none⟩ = some (.int .i64 x0) := (blk_cell B3.out 0).trans rfl
    have dB3_0 := blk_frozen B3.out 0
    have cB3_1 : wA.cell? ⟨gB3, 1, none⟩ = some (.int .i64 x1) := (blk_cell B3.out 1).trans rfl
    have dB3_1 := blk_frozen B3.out 1
    have cB3_2 : wA.cell? ⟨gB3, 2, none⟩ = some (.int .i64 x2) := (blk_cell B3.out 2).trans rfl
    have dB3_2 := blk_frozen B3.out 2
    have cB3_3 : wA.cell? ⟨gB3, 3, none⟩ = some (.int .i64 e) := (blk_cell B3.out 3).trans rfl
    have dB3_3 := blk_frozen B3.out 3
    have cB6_0 : wA.cell? ⟨gB6, 0, none⟩ = some (.int .i64 0) := (blk_cell B6.out 0).trans rfl
    have dB6_0 := blk_frozen B6.out 0
    have cB6_1 : wA.cell? ⟨gB6, 1, none⟩ = some (.int .i64 0) := (blk_cell B6.out 1).trans rfl
    have dB6_1 := blk_frozen B6.out 1
    have cB6_2 : wA.cell? ⟨gB6, 2, none⟩ = some (.int .i64 0) := (blk_cell B6.out 2).trans rfl
    have dB6_2 := blk_frozen B6.out 2
    have cB6_3 : wA.cell? ⟨gB6, 3, none⟩ = some (.int .i64 0) := (blk_cell B6.out 3).trans rfl
    have dB6_3 := blk_frozen B6.out 3
    have cB7_0 : wA.cell? ⟨gB7, 0, none⟩ = some (.int .i64 0) := (blk_cell B7.out 0).trans rfl
    have dB7_0 := blk_frozen B7.out 0
    have cB7_1 : wA.cell? ⟨gB7, 1, none⟩ = some (.int .i64 0) := (blk_cell B7.out 1).trans rfl
    have dB7_1 := blk_frozen B7.out 1
    have cB7_2 : wA.cell? ⟨gB7, 2, none⟩ = some (.int .i64 0) := (blk_cell B7.out 2).trans rfl
    have dB7_2 := blk_frozen B7.out 2
    have cB7_3 : wA.cell? ⟨gB7, 3, none⟩ = some (.int .i64 0) := (blk_cell B7.out 3).trans rfl
    have dB7_3 := blk_frozen B7.out 3
    have cB8_0 : wA.cell? ⟨g8, 0, none⟩ = some (.int .i64 x0) := (blk_cell B8.out 0).trans rfl
    have dB8_0 := blk_frozen B8.out 0
    have cB8_1 : wA.cell? ⟨g8, 1, none⟩ = some (.int .i64 x1) := (blk_cell B8.out 1).trans rfl
    have dB8_1 := blk_frozen B8.out 1
    have cB8_2 : wA.cell? ⟨g8, 2, none⟩ = some (.int .i64 x2) := (blk_cell B8.out 2).trans rfl
    have dB8_2 := blk_frozen B8.out 2
    have cB8_3 : wA.cell? ⟨g8, 3, none⟩ = some (.int .i64 e) := (blk_cell B8.out 3).trans rfl
    have dB8_3 := blk_frozen B8.out 3
    have cB9_0 : wA.cell? ⟨g9, 0, none⟩ = some (.int .i64 x0) := (blk_cell B9.out 0).trans rfl
    have dB9_0 := blk_frozen B9.out 0
    have cB9_1 : wA.cell? ⟨g9, 1, none⟩ = some (.int .i64 x1) := (blk_cell B9.out 1).trans rfl
    have dB9_1 := blk_frozen B9.out 1
    have cB9_2 : wA.cell? ⟨g9, 2, none⟩ = some (.int .i64 x2) := (blk_cell B9.out 2).trans rfl
    have dB9_2 := blk_frozen B9.out 2
    have cB9_3 : wA.cell? ⟨g9, 3, none⟩ = some (.int .i64 e) := (blk_cell B9.out 3).trans rfl
    have dB9_3 := blk_frozen B9.out 3
    go_upto_region 2 with fail
    have ne0_1 : (gB3 = g8) = False := eq_false (by have := ORD.out; omega)
    have ne1_0 : (g8 = gB3) = False := eq_false (by have := ORD.out; omega)
    refine start_ (n := 11) (S := fun w' => w'.cell? ⟨gB3, 3, none⟩ = some (.int .i64 e)) (ds := [10]) #[false, false, false, false, false, false, false, false, false, false, false] (by kernel_rfl) rfl rfl ((blk_cell (B3.out) 3).trans rfl) (fun hHeld => ?_)
    refine pure_ (i := 0) (N := some 12) (v := ?_) (a' := ?_) #[true, false, false, false, false, false, false, false, false, false, false] rfl rfl (by kernel_rfl) (fun _ _ _ h => h) (Or.inl ⟨by rfl, ?_⟩) ?_ ?_
    rotate_left
    · intro w'
      go_simp
      with_reducible rfl
    rotate_left
    · simp only [Act.put, List.setIfInBounds_toArray, List.set_cons_zero, List.set_cons_succ, i64_w, i32_w]
      rfl
    refine pure_ (i := 1) (N := some 13) (v := ?_) (a' := ?_) #[true, true, false, false, false, false, false, false, false, false, false] rfl rfl (by kernel_rfl) (fun _ _ _ h => h) (Or.inl ⟨by rfl, ?_⟩) ?_ ?_
    rotate_left
    · intro w'
      go_simp
      with_reducible rfl
    rotate_left
    · simp only [Act.put, List.setIfInBounds_toArray, List.set_cons_zero, List.set_cons_succ, i64_w, i32_w]
      rfl
    refine pure_ (i := 2) (N := some 14) (v := ?_) (a' := ?_) #[true, true, true, false, false, false, false, false, false, false, false] rfl rfl (by kernel_rfl) (fun _ _ _ h => h) (Or.inl ⟨by rfl, ?_⟩) ?_ ?_
    rotate_left
    · intro w'
      go_simp
      with_reducible rfl
    rotate_left
    · simp only [Act.put, List.setIfInBounds_toArray, List.set_cons_zero, List.set_cons_succ, i64_w, i32_w]
      rfl
    refine pure_ (i := 3) (N := some 15) (v := ?_) (a' := ?_) #[true, true, true, true, false, false, false, false, false, false, false] rfl rfl (by kernel_rfl) (fun _ _ _ h => h) (Or.inl ⟨by rfl, ?_⟩) ?_ ?_
    rotate_left
    · intro w'
      go_simp
      with_reducible rfl
    rotate_left
    · simp only [Act.put, List.setIfInBounds_toArray, List.set_cons_zero, List.set_cons_succ, i64_w, i32_w]
      rfl
    refine pure_ (i := 6) (N := some 18) (v := ?_) (a' := ?_) #[true, true, true, true, false, false, true, false, false, false, false] rfl rfl (by kernel_rfl) (fun _ _ _ h => h) (Or.inl ⟨by rfl, ?_⟩) ?_ ?_
    rotate_left
    · intro w'
      go_simp
      with_reducible rfl
    rotate_left
    · simp only [Act.put, List.setIfInBounds_toArray, List.set_cons_zero, List.set_cons_succ, i64_w, i32_w]
      rfl
    refine pure_ (i := 7) (N := some 19) (v := ?_) (a' := ?_) #[true, true, true, true, false, false, true, true, false, false, false] rfl rfl (by kernel_rfl) (fun _ _ _ h => h) (Or.inl ⟨by rfl, ?_⟩) ?_ ?_
    rotate_left
    · intro w'
      go_simp
      with_reducible rfl
    rotate_left
    · simp only [Act.put, List.setIfInBounds_toArray, List.set_cons_zero, List.set_cons_succ, i64_w, i32_w]
      rfl
    refine take_ (i := 4) (N := some 16) (v := ?_) (a' := ?_) #[true, true, true, true, true, false, true, true, false, false, false] rfl rfl (by kernel_rfl) (fun _ _ _ h => h) (Or.inl ⟨by rfl, ?_⟩) hHeld ?_ ?_
    rotate_left
    · intro w' s0
      go_simp
      with_reducible rfl
    rotate_left
    · simp only [Act.put, List.setIfInBounds_toArray, List.set_cons_zero, List.set_cons_succ, i64_w, i32_w]
      rfl
    refine pure_ (i := 5) (N := some 17) (v := ?_) (a' := ?_) #[true, true, true, true, true, true, true, true, false, false, false] rfl rfl (by kernel_rfl) (fun _ _ _ h => h) (Or.inl ⟨by rfl, ?_⟩) ?_ ?_
    rotate_left
    · intro w'
      go_simp
      with_reducible rfl
    rotate_left
    · simp only [Act.put, List.setIfInBounds_toArray, List.set_cons_zero, List.set_cons_succ, i64_w, i32_w]
      rfl
    refine one_ (i := 8) (N := none) #[true, true, true, true, true, true, true, true, true, false, false] rfl rfl (by kernel_rfl) (by decide) (fun K hK => ?_)
    refine skip_ (w1 := ?_) (by rfl) rfl ?_ ?_
    rotate_left
    · go_simp
      rfl
    refine hK.out _ _ ((blk_cell (blk_drew (blk_far B3.out (show gB3 ≠ g8 by have := ORD.out; omega) _)) 3).trans rfl) (fun hHeld => ?_)
    clear hK K
    refine pure_ (i := 9) (N := some 20) (v := ?_) (a' := ?_) #[true, true, true, true, true, true, true, true, true, true, false] rfl rfl (by kernel_rfl) (fun _ _ _ h => h) (Or.inl ⟨by rfl, ?_⟩) ?_ ?_
    rotate_left
    · intro w'
      go_simp
      with_reducible rfl
    rotate_left
    · simp only [Act.put, List.setIfInBounds_toArray, List.set_cons_zero, List.set_cons_succ, i64_w, i32_w]
      rfl
    refine last_ (i := 10) (N := none) #[true, true, true, true, true, true, true, true, true, true, true] rfl rfl (by kernel_rfl) (by decide) (fun K hK => ?_)
    refine skip_ (w1 := ?_) (by rfl) rfl ?_ ?_
    rotate_left
    · go_simp
      rfl
    refine hK.out _ _ ?_
    clear hK K
    refine done_ (by kernel_rfl) ?_
    clear ne0_1 ne1_0
    all_goals
      obtain ⟨wB, hw_⟩ : ∃ W_, W_ = ((wA.setCell ⟨g8, 0, none⟩ (.int .i64 (f - 1))).setCell ⟨g8, 3, none⟩ (.int .i64 (e - 1))).drew := ⟨_, rfl⟩
      have e0_ : gB3 ≠ g8 := (by have := ORD.out; omega)
      have e1_ : gB6 ≠ g8 := (by have := ORD.out; omega)
      have e2_ : gB7 ≠ g8 := (by have := ORD.out; omega)
      have e3_ : g9 ≠ g8 := (by have := ORD.out; omega)
      have n0_ : Aside0 (Below w.heap.size w wB) := ⟨by rw [hw_]; exact below_drew1 (below_set (g := g8) (below_set (g := g8) HB.out (by have := ORD.out; omega)) (by have := ORD.out; omega))⟩
      have n1_ : Aside0 (wB.heap[gB3]? = some (.cells #[.int .i64 x0, .int .i64 x1, .int .i64 x2, .int .i64 e] 101 (0, 0))) := ⟨by rw [hw_]; exact blk_drew (blk_far (blk_far B3.out e0_ _) e0_ _)⟩
      have n2_ : Aside0 (wB.heap[gB6]? = some (.cells #[.int .i64 0, .int .i64 0, .int .i64 0, .int .i64 0] 101 (0, 0))) := ⟨by rw [hw_]; exact blk_drew (blk_far (blk_far B6.out e1_ _) e1_ _)⟩
      have n3_ : Aside0 (wB.heap[gB7]? = some (.cells #[.int .i64 0, .int .i64 0, .int .i64 0, .int .i64 0] 101 (0, 0))) := ⟨by rw [hw_]; exact blk_drew (blk_far (blk_far B7.out e2_ _) e2_ _)⟩
      have n4_ : Aside0 (wB.heap[g8]? = some (.cells #[.int .i64 (f - 1), .int .i64 x1, .int .i64 x2, .int .i64 (e - 1)] 101 (0, 0))) := ⟨by rw [hw_]; exact blk_drew (blk_put (blk_put B8.out 0 _ rfl) 3 _ rfl)⟩
      have n5_ : Aside0 (wB.heap[g9]? = some (.cells #[.int .i64 x0, .int .i64 x1, .int .i64 x2, .int .i64 e] 101 (0, 0))) := ⟨by rw [hw_]; exact blk_drew (blk_far (blk_far B9.out e3_ _) e3_ _)⟩
      (try clear cB3_0 dB3_0 cB3_1 dB3_1 cB3_2 dB3_2 cB3_3 dB3_3 cB6_0 dB6_0 cB6_1 dB6_1 cB6_2 dB6_2 cB6_3 dB6_3 cB7_0 dB7_0 cB7_1 dB7_1 cB7_2 dB7_2 cB7_3 dB7_3 cB8_0 dB8_0 cB8_1 dB8_1 cB8_2 dB8_2 cB8_3 dB8_3 cB9_0 dB9_0 cB9_1 dB9_1 cB9_2 dB9_2 cB9_3 dB9_3)
      (try clear HB)
      (try clear B3)
      (try clear B6)
      (try clear B7)
      (try clear B8)
      (try clear B9)
      rw [← hw_]
      clear hw_ e0_ e1_ e2_ e3_
      have HB := n0_
      have B3 := n1_
      have B6 := n2_
      have B7 := n3_
      have B8 := n4_
      have B9 := n5_
      clear n0_ n1_ n2_ n3_ n4_ n5_
      have cB3_0 : wB.cell? ⟨gB3, 0, none⟩ = some (.int .i64 x0) := (blk_cell B3.out 0).trans rfl
      have dB3_0 := blk_frozen B3.out 0
      have cB3_1 : wB.cell? ⟨gB3, 1, none⟩ = some (.int .i64 x1) := (blk_cell B3.out 1).trans rfl
      have dB3_1 := blk_frozen B3.out 1
      have cB3_2 : wB.cell? ⟨gB3, 2, none⟩ = some (.int .i64 x2) := (blk_cell B3.out 2).trans rfl
      have dB3_2 := blk_frozen B3.out 2
      have cB3_3 : wB.cell? ⟨gB3, 3, none⟩ = some (.int .i64 e) := (blk_cell B3.out 3).trans rfl
      have dB3_3 := blk_frozen B3.out 3
      have cB6_0 : wB.cell? ⟨gB6, 0, none⟩ = some (.int .i64 0) := (blk_cell B6.out 0).trans rfl
      have dB6_0 := blk_frozen B6.out 0
      have cB6_1 : wB.cell? ⟨gB6, 1, none⟩ = some (.int .i64 0) := (blk_cell B6.out 1).trans rfl
      have dB6_1 := blk_frozen B6.out 1
      have cB6_2 : wB.cell? ⟨gB6, 2, none⟩ = some (.int .i64 0) := (blk_cell B6.out 2).trans rfl
      have dB6_2 := blk_frozen B6.out 2
      have cB6_3 : wB.cell? ⟨gB6, 3, none⟩ = some (.int .i64 0) := (blk_cell B6.out 3).trans rfl
      have dB6_3 := blk_frozen B6.out 3
      have cB7_0 : wB.cell? ⟨gB7, 0, none⟩ = some (.int .i64 0) := (blk_cell B7.out 0).trans rfl
      have dB7_0 := blk_frozen B7.out 0
      have cB7_1 : wB.cell? ⟨gB7, 1, none⟩ = some (.int .i64 0) := (blk_cell B7.out 1).trans rfl
      have dB7_1 := blk_frozen B7.out 1
      have cB7_2 : wB.cell? ⟨gB7, 2, none⟩ = some (.int .i64 0) := (blk_cell B7.out 2).trans rfl
      have dB7_2 := blk_frozen B7.out 2
      have cB7_3 : wB.cell? ⟨gB7, 3, none⟩ = some (.int .i64 0) := (blk_cell B7.out 3).trans rfl
      have dB7_3 := blk_frozen B7.out 3
      have cB8_0 : wB.cell? ⟨g8, 0, none⟩ = some (.int .i64 (f - 1)) := (blk_cell B8.out 0).trans rfl
      have dB8_0 := blk_frozen B8.out 0
      have cB8_1 : wB.cell? ⟨g8, 1, none⟩ = some (.int .i64 x1) := (blk_cell B8.out 1).trans rfl
      have dB8_1 := blk_frozen B8.out 1
      have cB8_2 : wB.cell? ⟨g8, 2, none⟩ = some (.int .i64 x2) := (blk_cell B8.out 2).trans rfl
      have dB8_2 := blk_frozen B8.out 2
      have cB8_3 : wB.cell? ⟨g8, 3, none⟩ = some (.int .i64 (e - 1)) := (blk_cell B8.out 3).trans rfl
      have dB8_3 := blk_frozen B8.out 3
      have cB9_0 : wB.cell? ⟨g9, 0, none⟩ = some (.int .i64 x0) := (blk_cell B9.out 0).trans rfl
      have dB9_0 := blk_frozen B9.out 0
      have cB9_1 : wB.cell? ⟨g9, 1, none⟩ = some (.int .i64 x1) := (blk_cell B9.out 1).trans rfl
      have dB9_1 := blk_frozen B9.out 1
      have cB9_2 : wB.cell? ⟨g9, 2, none⟩ = some (.int .i64 x2) := (blk_cell B9.out 2).trans rfl
      have dB9_2 := blk_frozen B9.out 2
      have cB9_3 : wB.cell? ⟨g9, 3, none⟩ = some (.int .i64 e) := (blk_cell B9.out 3).trans rfl
      have dB9_3 := blk_frozen B9.out 3
      go_upto_region 4 with (first | ((with_reducible refine gate_store (t := 3) (p := 28) rfl ?_); refine store_event (t := 3) (p := 28) (v := ?vo_wC) (w1 := ((wB).setCell ⟨g9, 0, none⟩ (.int .i64 (x0 - f)))) ?hg ?ho ?hn ?hr ?_; (case ho => rfl); (case hg => rfl); (case hn => rfl); (case hr => first | (go_simp; done) | (go_simp; rfl)); intro wC hw_; have n0_ : Aside0 (Below w.heap.size w wC) := ⟨by rw [hw_]; exact below_set (g := g9) HB.out (by have := ORD.out; omega)⟩; have n1_ : Aside0 (wC.heap[gB3]? = some (.cells #[.int .i64 x0, .int .i64 x1, .int .i64 x2, .int .i64 e] 101 (0, 0))) := ⟨by rw [hw_]; exact blk_far B3.out (show gB3 ≠ g9 by have := ORD.out; omega) _⟩; have n2_ : Aside0 (wC.heap[gB6]? = some (.cells #[.int .i64 0, .int .i64 0, .int .i64 0, .int .i64 0] 101 (0, 0))) := ⟨by rw [hw_]; exact blk_far B6.out (show gB6 ≠ g9 by have := ORD.out; omega) _⟩; have n3_ : Aside0 (wC.heap[gB7]? = some (.cells #[.int .i64 0, .int .i64 0, .int .i64 0, .int .i64 0] 101 (0, 0))) := ⟨by rw [hw_]; exact blk_far B7.out (show gB7 ≠ g9 by have := ORD.out; omega) _⟩; have n4_ : Aside0 (wC.heap[g8]? = some (.cells #[.int .i64 (f - 1), .int .i64 x1, .int .i64 x2, .int .i64 (e - 1)] 101 (0, 0))) := ⟨by rw [hw_]; exact blk_far B8.out (show g8 ≠ g9 by have := ORD.out; omega) _⟩; have n5_ : Aside0 (wC.heap[g9]? = some (.cells #[.int .i64 (x0 - f), .int .i64 x1, .int .i64 x2, .int .i64 e] 101 (0, 0))) := ⟨by rw [hw_]; exact blk_put B9.out 0 _ rfl⟩; (try clear cB3_0 dB3_0 cB3_1 dB3_1 cB3_2 dB3_2 cB3_3 dB3_3 cB6_0 dB6_0 cB6_1 dB6_1 cB6_2 dB6_2 cB6_3 dB6_3 cB7_0 dB7_0 cB7_1 dB7_1 cB7_2 dB7_2 cB7_3 dB7_3 cB8_0 dB8_0 cB8_1 dB8_1 cB8_2 dB8_2 cB8_3 dB8_3 cB9_0 dB9_0 cB9_1 dB9_1 cB9_2 dB9_2 cB9_3 dB9_3); (try clear HB); (try clear B3); (try clear B6); (try clear B7); (try clear B8); (try clear B9); have HB := n0_; have B3 := n1_; have B6 := n2_; have B7 := n3_; have B8 := n4_; have B9 := n5_; clear n0_ n1_ n2_ n3_ n4_ n5_; have cB3_0 : wC.cell? ⟨gB3, 0, none⟩ = some (.int .i64 x0) := (blk_cell B3.out 0).trans rfl; have dB3_0 := blk_frozen B3.out 0; have cB3_1 : wC.cell? ⟨gB3, 1, none⟩ = some (.int .i64 x1) := (blk_cell B3.out 1).trans rfl; have dB3_1 := blk_frozen B3.out 1; have cB3_2 : wC.cell? ⟨gB3, 2, none⟩ = some (.int .i64 x2) := (blk_cell B3.out 2).trans rfl; have dB3_2 := blk_frozen B3.out 2; have cB3_3 : wC.cell? ⟨gB3, 3, none⟩ = some (.int .i64 e) := (blk_cell B3.out 3).trans rfl; have dB3_3 := blk_frozen B3.out 3; have cB6_0 : wC.cell? ⟨gB6, 0, none⟩ = some (.int .i64 0) := (blk_cell B6.out 0).trans rfl; have dB6_0 := blk_frozen B6.out 0; have cB6_1 : wC.cell? ⟨gB6, 1, none⟩ = some (.int .i64 0) := (blk_cell B6.out 1).trans rfl; have dB6_1 := blk_frozen B6.out 1; have cB6_2 : wC.cell? ⟨gB6, 2, none⟩ = some (.int .i64 0) := (blk_cell B6.out 2).trans rfl; have dB6_2 := blk_frozen B6.out 2; have cB6_3 : wC.cell? ⟨gB6, 3, none⟩ = some (.int .i64 0) := (blk_cell B6.out 3).trans rfl; have dB6_3 := blk_frozen B6.out 3; have cB7_0 : wC.cell? ⟨gB7, 0, none⟩ = some (.int .i64 0) := (blk_cell B7.out 0).trans rfl; have dB7_0 := blk_frozen B7.out 0; have cB7_1 : wC.cell? ⟨gB7, 1, none⟩ = some (.int .i64 0) := (blk_cell B7.out 1).trans rfl; have dB7_1 := blk_frozen B7.out 1; have cB7_2 : wC.cell? ⟨gB7, 2, none⟩ = some (.int .i64 0) := (blk_cell B7.out 2).trans rfl; have dB7_2 := blk_frozen B7.out 2; have cB7_3 : wC.cell? ⟨gB7, 3, none⟩ = some (.int .i64 0) := (blk_cell B7.out 3).trans rfl; have dB7_3 := blk_frozen B7.out 3; have cB8_0 : wC.cell? ⟨g8, 0, none⟩ = some (.int .i64 (f - 1)) := (blk_cell B8.out 0).trans rfl; have dB8_0 := blk_frozen B8.out 0; have cB8_1 : wC.cell? ⟨g8, 1, none⟩ = some (.int .i64 x1) := (blk_cell B8.out 1).trans rfl; have dB8_1 := blk_frozen B8.out 1; have cB8_2 : wC.cell? ⟨g8, 2, none⟩ = some (.int .i64 x2) := (blk_cell B8.out 2).trans rfl; have dB8_2 := blk_frozen B8.out 2; have cB8_3 : wC.cell? ⟨g8, 3, none⟩ = some (.int .i64 (e - 1)) := (blk_cell B8.out 3).trans rfl; have dB8_3 := blk_frozen B8.out 3; have cB9_0 : wC.cell? ⟨g9, 0, none⟩ = some (.int .i64 (x0 - f)) := (blk_cell B9.out 0).trans rfl; have dB9_0 := blk_frozen B9.out 0; have cB9_1 : wC.cell? ⟨g9, 1, none⟩ = some (.int .i64 x1) := (blk_cell B9.out 1).trans rfl; have dB9_1 := blk_frozen B9.out 1; have cB9_2 : wC.cell? ⟨g9, 2, none⟩ = some (.int .i64 x2) := (blk_cell B9.out 2).trans rfl; have dB9_2 := blk_frozen B9.out 2; have cB9_3 : wC.cell? ⟨g9, 3, none⟩ = some (.int .i64 e) := (blk_cell B9.out 3).trans rfl; have dB9_3 := blk_frozen B9.out 3; clear hw_ ))
      have ne0_1 : (gB6 = gB7) = False := eq_false (by have := ORD.out; omega)
      have ne0_2 : (gB6 = g8) = False := eq_false (by have := ORD.out; omega)
      have ne0_3 : (gB6 = g9) = False := eq_false (by have := ORD.out; omega)
      have ne1_0 : (gB7 = gB6) = False := eq_false (by have := ORD.out; omega)
      have ne1_2 : (gB7 = g8) = False := eq_false (by have := ORD.out; omega)
      have ne1_3 : (gB7 = g9) = False := eq_false (by have := ORD.out; omega)
      have ne2_0 : (g8 = gB6) = False := eq_false (by have := ORD.out; omega)
      have ne2_1 : (g8 = gB7) = False := eq_false (by have := ORD.out; omega)
      have ne2_3 : (g8 = g9) = False := eq_false (by have := ORD.out; omega)
      have ne3_0 : (g9 = gB6) = False := eq_false (by have := ORD.out; omega)
      have ne3_1 : (g9 = gB7) = False := eq_false (by have := ORD.out; omega)
      have ne3_2 : (g9 = g8) = False := eq_false (by have := ORD.out; omega)
      refine start_ (n := 4) (S := fun w' => w'.cell? ⟨g8, 0, none⟩ = some (.int .i64 (f - 1)) ∧ w'.cell? ⟨g8, 1, none⟩ = some (.int .i64 x1) ∧ w'.cell? ⟨g8, 2, none⟩ = some (.int .i64 x2) ∧ w'.cell? ⟨g8, 3, none⟩ = some (.int .i64 (e - 1)) ∧ w'.cell? ⟨g9, 0, none⟩ = some (.int .i64 (x0 - f)) ∧ w'.cell? ⟨g9, 1, none⟩ = some (.int .i64 x1) ∧ w'.cell? ⟨g9, 2, none⟩ = some (.int .i64 x2) ∧ w'.cell? ⟨g9, 3, none⟩ = some (.int .i64 e)) (ds := [3]) #[false, false, false, false] (by kernel_rfl) rfl rfl ⟨(blk_cell (B8.out) 0).trans rfl, (blk_cell (B8.out) 1).trans rfl, (blk_cell (B8.out) 2).trans rfl, (blk_cell (B8.out) 3).trans rfl, (blk_cell (B9.out) 0).trans rfl, (blk_cell (B9.out) 1).trans rfl, (blk_cell (B9.out) 2).trans rfl, (blk_cell (B9.out) 3).trans rfl⟩ (fun hHeld => ?_)
      refine take_ (i := 0) (N := some 29) (v := ?_) (a' := ?_) #[true, false, false, false] rfl rfl (by kernel_rfl) (fun _ _ _ h => h) (Or.inl ⟨by rfl, ?_⟩) hHeld ?_ ?_
      rotate_left
      · rintro w' ⟨s0, s1, s2, s3, s4, s5, s6, s7⟩
        go_simp
        with_reducible rfl
      rotate_left
      · simp only [Act.put, List.setIfInBounds_toArray, List.set_cons_zero, List.set_cons_succ, i64_w, i32_w]
        rfl
      refine take_ (i := 1) (N := some 30) (v := ?_) (a' := ?_) #[true, true, false, false] rfl rfl (by kernel_rfl) (fun _ _ _ h => h) (Or.inl ⟨by rfl, ?_⟩) hHeld ?_ ?_
      rotate_left
      · rintro w' ⟨s0, s1, s2, s3, s4, s5, s6, s7⟩
        go_simp
        with_reducible rfl
      rotate_left
      · simp only [Act.put, List.setIfInBounds_toArray, List.set_cons_zero, List.set_cons_succ, i64_w, i32_w]
        rfl
      refine one_ (i := 2) (N := none) #[true, true, true, false] rfl rfl (by kernel_rfl) (by decide) (fun K hK => ?_)
      refine skip_ (w1 := ?_) (by rfl) rfl ?_ ?_
      rotate_left
      · go_simp
        rfl
      refine hK.out _ _ ⟨(blk_cell (blk_drew (blk_far (blk_far (blk_far (blk_far (B8.out) (show g8 ≠ gB6 by have := ORD.out; omega) _) (show g8 ≠ gB6 by have := ORD.out; omega) _) (show g8 ≠ gB6 by have := ORD.out; omega) _) (show g8 ≠ gB6 by have := ORD.out; omega) _)) 0).trans rfl, (blk_cell (blk_drew (blk_far (blk_far (blk_far (blk_far (B8.out) (show g8 ≠ gB6 by have := ORD.out; omega) _) (show g8 ≠ gB6 by have := ORD.out; omega) _) (show g8 ≠ gB6 by have := ORD.out; omega) _) (show g8 ≠ gB6 by have := ORD.out; omega) _)) 1).trans rfl, (blk_cell (blk_drew (blk_far (blk_far (blk_far (blk_far (B8.out) (show g8 ≠ gB6 by have := ORD.out; omega) _) (show g8 ≠ gB6 by have := ORD.out; omega) _) (show g8 ≠ gB6 by have := ORD.out; omega) _) (show g8 ≠ gB6 by have := ORD.out; omega) _)) 2).trans rfl, (blk_cell (blk_drew (blk_far (blk_far (blk_far (blk_far (B8.out) (show g8 ≠ gB6 by have := ORD.out; omega) _) (show g8 ≠ gB6 by have := ORD.out; omega) _) (show g8 ≠ gB6 by have := ORD.out; omega) _) (show g8 ≠ gB6 by have := ORD.out; omega) _)) 3).trans rfl, (blk_cell (blk_drew (blk_far (blk_far (blk_far (blk_far (B9.out) (show g9 ≠ gB6 by have := ORD.out; omega) _) (show g9 ≠ gB6 by have := ORD.out; omega) _) (show g9 ≠ gB6 by have := ORD.out; omega) _) (show g9 ≠ gB6 by have := ORD.out; omega) _)) 0).trans rfl, (blk_cell (blk_drew (blk_far (blk_far (blk_far (blk_far (B9.out) (show g9 ≠ gB6 by have := ORD.out; omega) _) (show g9 ≠ gB6 by have := ORD.out; omega) _) (show g9 ≠ gB6 by have := ORD.out; omega) _) (show g9 ≠ gB6 by have := ORD.out; omega) _)) 1).trans rfl, (blk_cell (blk_drew (blk_far (blk_far (blk_far (blk_far (B9.out) (show g9 ≠ gB6 by have := ORD.out; omega) _) (show g9 ≠ gB6 by have := ORD.out; omega) _) (show g9 ≠ gB6 by have := ORD.out; omega) _) (show g9 ≠ gB6 by have := ORD.out; omega) _)) 2).trans rfl, (blk_cell (blk_drew (blk_far (blk_far (blk_far (blk_far (B9.out) (show g9 ≠ gB6 by have := ORD.out; omega) _) (show g9 ≠ gB6 by have := ORD.out; omega) _) (show g9 ≠ gB6 by have := ORD.out; omega) _) (show g9 ≠ gB6 by have := ORD.out; omega) _)) 3).trans rfl⟩ (fun hHeld => ?_)
      clear hK K
      refine last_ (i := 3) (N := none) #[true, true, true, true] rfl rfl (by kernel_rfl) (by decide) (fun K hK => ?_)
      refine skip_ (w1 := ?_) (by rfl) rfl ?_ ?_
      rotate_left
      · go_simp
        rfl
      refine hK.out _ _ ?_
      clear hK K
      refine done_ (by kernel_rfl) ?_
      clear ne0_1 ne0_2 ne0_3 ne1_0 ne1_2 ne1_3 ne2_0 ne2_1 ne2_3 ne3_0 ne3_1 ne3_2
      all_goals
        obtain ⟨wD, hw_⟩ : ∃ W_, W_ = (((((((((wC).setCell ⟨gB6, 0, none⟩ (.int .i64 (f - 1))).setCell ⟨gB6, 1, none⟩ (.int .i64 x1)).setCell ⟨gB6, 2, none⟩ (.int .i64 x2)).setCell ⟨gB6, 3, none⟩ (.int .i64 (e - 1))).setCell ⟨gB7, 0, none⟩ (.int .i64 (x0 - f))).setCell ⟨gB7, 1, none⟩ (.int .i64 x1)).setCell ⟨gB7, 2, none⟩ (.int .i64 x2)).setCell ⟨gB7, 3, none⟩ (.int .i64 e)).drew := ⟨_, rfl⟩
        have e0_ : gB3 ≠ gB6 := (by have := ORD.out; omega)
        have e1_ : gB3 ≠ gB7 := (by have := ORD.out; omega)
        have e2_ : gB6 ≠ gB7 := (by have := ORD.out; omega)
        have e3_ : gB7 ≠ gB6 := (by have := ORD.out; omega)
        have e4_ : g8 ≠ gB6 := (by have := ORD.out; omega)
        have e5_ : g8 ≠ gB7 := (by have := ORD.out; omega)
        have e6_ : g9 ≠ gB6 := (by have := ORD.out; omega)
        have e7_ : g9 ≠ gB7 := (by have := ORD.out; omega)
        have n0_ : Aside0 (Below w.heap.size w wD) := ⟨by rw [hw_]; exact below_drew1 (below_set (g := gB7) (below_set (g := gB7) (below_set (g := gB7) (below_set (g := gB7) (below_set (g := gB6) (below_set (g := gB6) (below_set (g := gB6) (below_set (g := gB6) HB.out (by have := ORD.out; omega)) (by have := ORD.out; omega)) (by have := ORD.out; omega)) (by have := ORD.out; omega)) (by have := ORD.out; omega)) (by have := ORD.out; omega)) (by have := ORD.out; omega)) (by have := ORD.out; omega))⟩
        have n1_ : Aside0 (wD.heap[gB3]? = some (.cells #[.int .i64 x0, .int .i64 x1, .int .i64 x2, .int .i64 e] 101 (0, 0))) := ⟨by rw [hw_]; exact blk_drew (blk_far (blk_far (blk_far (blk_far (blk_far (blk_far (blk_far (blk_far B3.out e0_ _) e0_ _) e0_ _) e0_ _) e1_ _) e1_ _) e1_ _) e1_ _)⟩
        have n2_ : Aside0 (wD.heap[gB6]? = some (.cells #[.int .i64 (f - 1), .int .i64 x1, .int .i64 x2, .int .i64 (e - 1)] 101 (0, 0))) := ⟨by rw [hw_]; exact blk_drew (blk_far (blk_far (blk_far (blk_far (blk_put (blk_put (blk_put (blk_put B6.out 0 _ rfl) 1 _ rfl) 2 _ rfl) 3 _ rfl) e2_ _) e2_ _) e2_ _) e2_ _)⟩
        have n3_ : Aside0 (wD.heap[gB7]? = some (.cells #[.int .i64 (x0 - f), .int .i64 x1, .int .i64 x2, .int .i64 e] 101 (0, 0))) := ⟨by rw [hw_]; exact blk_drew (blk_put (blk_put (blk_put (blk_put (blk_far (blk_far (blk_far (blk_far B7.out e3_ _) e3_ _) e3_ _) e3_ _) 0 _ rfl) 1 _ rfl) 2 _ rfl) 3 _ rfl)⟩
        have n4_ : Aside0 (wD.heap[g8]? = some (.cells #[.int .i64 (f - 1), .int .i64 x1, .int .i64 x2, .int .i64 (e - 1)] 101 (0, 0))) := ⟨by rw [hw_]; exact blk_drew (blk_far (blk_far (blk_far (blk_far (blk_far (blk_far (blk_far (blk_far B8.out e4_ _) e4_ _) e4_ _) e4_ _) e5_ _) e5_ _) e5_ _) e5_ _)⟩
        have n5_ : Aside0 (wD.heap[g9]? = some (.cells #[.int .i64 (x0 - f), .int .i64 x1, .int .i64 x2, .int .i64 e] 101 (0, 0))) := ⟨by rw [hw_]; exact blk_drew (blk_far (blk_far (blk_far (blk_far (blk_far (blk_far (blk_far (blk_far B9.out e6_ _) e6_ _) e6_ _) e6_ _) e7_ _) e7_ _) e7_ _) e7_ _)⟩
        (try clear cB3_0 dB3_0 cB3_1 dB3_1 cB3_2 dB3_2 cB3_3 dB3_3 cB6_0 dB6_0 cB6_1 dB6_1 cB6_2 dB6_2 cB6_3 dB6_3 cB7_0 dB7_0 cB7_1 dB7_1 cB7_2 dB7_2 cB7_3 dB7_3 cB8_0 dB8_0 cB8_1 dB8_1 cB8_2 dB8_2 cB8_3 dB8_3 cB9_0 dB9_0 cB9_1 dB9_1 cB9_2 dB9_2 cB9_3 dB9_3)
        (try clear HB)
        (try clear B3)
        (try clear B6)
        (try clear B7)
        (try clear B8)
        (try clear B9)
        rw [← hw_]
        clear hw_ e0_ e1_ e2_ e3_ e4_ e5_ e6_ e7_
        have HB := n0_
        have B3 := n1_
        have B6 := n2_
        have B7 := n3_
        have B8 := n4_
        have B9 := n5_
        clear n0_ n1_ n2_ n3_ n4_ n5_
        have cB3_0 : wD.cell? ⟨gB3, 0, none⟩ = some (.int .i64 x0) := (blk_cell B3.out 0).trans rfl
        have dB3_0 := blk_frozen B3.out 0
        have cB3_1 : wD.cell? ⟨gB3, 1, none⟩ = some (.int .i64 x1) := (blk_cell B3.out 1).trans rfl
        have dB3_1 := blk_frozen B3.out 1
        have cB3_2 : wD.cell? ⟨gB3, 2, none⟩ = some (.int .i64 x2) := (blk_cell B3.out 2).trans rfl
        have dB3_2 := blk_frozen B3.out 2
        have cB3_3 : wD.cell? ⟨gB3, 3, none⟩ = some (.int .i64 e) := (blk_cell B3.out 3).trans rfl
        have dB3_3 := blk_frozen B3.out 3
        have cB6_0 : wD.cell? ⟨gB6, 0, none⟩ = some (.int .i64 (f - 1)) := (blk_cell B6.out 0).trans rfl
        have dB6_0 := blk_frozen B6.out 0
        have cB6_1 : wD.cell? ⟨gB6, 1, none⟩ = some (.int .i64 x1) := (blk_cell B6.out 1).trans rfl
        have dB6_1 := blk_frozen B6.out 1
        have cB6_2 : wD.cell? ⟨gB6, 2, none⟩ = some (.int .i64 x2) := (blk_cell B6.out 2).trans rfl
        have dB6_2 := blk_frozen B6.out 2
        have cB6_3 : wD.cell? ⟨gB6, 3, none⟩ = some (.int .i64 (e - 1)) := (blk_cell B6.out 3).trans rfl
        have dB6_3 := blk_frozen B6.out 3
        have cB7_0 : wD.cell? ⟨gB7, 0, none⟩ = some (.int .i64 (x0 - f)) := (blk_cell B7.out 0).trans rfl
        have dB7_0 := blk_frozen B7.out 0
        have cB7_1 : wD.cell? ⟨gB7, 1, none⟩ = some (.int .i64 x1) := (blk_cell B7.out 1).trans rfl
        have dB7_1 := blk_frozen B7.out 1
        have cB7_2 : wD.cell? ⟨gB7, 2, none⟩ = some (.int .i64 x2) := (blk_cell B7.out 2).trans rfl
        have dB7_2 := blk_frozen B7.out 2
        have cB7_3 : wD.cell? ⟨gB7, 3, none⟩ = some (.int .i64 e) := (blk_cell B7.out 3).trans rfl
        have dB7_3 := blk_frozen B7.out 3
        have cB8_0 : wD.cell? ⟨g8, 0, none⟩ = some (.int .i64 (f - 1)) := (blk_cell B8.out 0).trans rfl
        have dB8_0 := blk_frozen B8.out 0
        have cB8_1 : wD.cell? ⟨g8, 1, none⟩ = some (.int .i64 x1) := (blk_cell B8.out 1).trans rfl
        have dB8_1 := blk_frozen B8.out 1
        have cB8_2 : wD.cell? ⟨g8, 2, none⟩ = some (.int .i64 x2) := (blk_cell B8.out 2).trans rfl
        have dB8_2 := blk_frozen B8.out 2
        have cB8_3 : wD.cell? ⟨g8, 3, none⟩ = some (.int .i64 (e - 1)) := (blk_cell B8.out 3).trans rfl
        have dB8_3 := blk_frozen B8.out 3
        have cB9_0 : wD.cell? ⟨g9, 0, none⟩ = some (.int .i64 (x0 - f)) := (blk_cell B9.out 0).trans rfl
        have dB9_0 := blk_frozen B9.out 0
        have cB9_1 : wD.cell? ⟨g9, 1, none⟩ = some (.int .i64 x1) := (blk_cell B9.out 1).trans rfl
        have dB9_1 := blk_frozen B9.out 1
        have cB9_2 : wD.cell? ⟨g9, 2, none⟩ = some (.int .i64 x2) := (blk_cell B9.out 2).trans rfl
        have dB9_2 := blk_frozen B9.out 2
        have cB9_3 : wD.cell? ⟨g9, 3, none⟩ = some (.int .i64 e) := (blk_cell B9.out 3).trans rfl
        have dB9_3 := blk_frozen B9.out 3
        go_wp2
        exact bodyPost_ret (v := .tuple #[.agg #[.int .i64 (f - 1), .int .i64 x1, .int .i64 x2, .int .i64 (e - 1)], .agg #[.int .i64 (x0 - f), .int .i64 x1, .int .i64 x2, .int .i64 e]]) (by simp [results, Try.results127, go_sem, cB6_0, cB6_1, cB6_2, cB6_3, cB7_0, cB7_1, cB7_2, cB7_3]) rfl ⟨rfl, HB.out⟩

set_option maxHeartbeats 8000000 in
set_option maxRecDepth 100000 in
theorem parts1.calls (x0 x1 x2 e f : Int) (w : World) (hx : f ≤ x1 ∧ 1 ≤ f ∧ x1 ≤ 8 ∧ 0 ≤ e ∧ e ≤ 6) :
    Calls Try.prog 127 #[.agg #[.int .i64 x0, .int .i64 x1, .int .i64 x2, .int .i64 e], .int .i64 1, .int .i64 f] w fun e_ w' => e_ = .returned (.tuple #[.agg #[.int .i64 x0, .int .i64 (f - 1), .int .i64 x2, .int .i64 (e - 1)], .agg #[.int .i64 x0, .int .i64 (x1 - f), .int .i64 x2, .int .i64 e]]) ∧ Below w.heap.size w w' := by
  have HB := Aside0.mk (Below.refl w.heap.size w)
  have wf1 : IntKind.i64.wrap (f - 1) = f - 1 := Hw.wrap_w (by omega) (by omega)
  have we1 : IntKind.i64.wrap (e - 1) = e - 1 := Hw.wrap_w (by omega) (by omega)
  have wx1 : IntKind.i64.wrap (x1 - f) = x1 - f := Hw.wrap_w (by omega) (by omega)
  clear hx
  go_enter Try.func127, Try.ntmps127
  go_upto_region 1 with (first | ((with_reducible refine gate_dst (N := 3) rfl ?_); refine box_event ?hg (N := 3) ?hd (cs := #[.int .i64 x0, .int .i64 x1, .int .i64 x2, .int .i64 e]) (t := 101) ?hr ?_; (case hd => rfl); (case hg => rfl); (case hr => first | (go_simp; done) | (go_simp; rfl)); intro gB3 hg_ w_gB3 BK_ hb_; have ORD_ : Aside0 ((True) ∧ (w.heap.size ≤ gB3)) := ⟨by refine ⟨trivial, ?_⟩; (have := HB.out.size); omega⟩; have ORD := ORD_; clear ORD_; have n0_ : Aside0 (Below w.heap.size w w_gB3) := ⟨Hx.bb_below hb_ (by first | exact HB.out | exact below_drew1 HB.out | exact pw_below_drewN HB.out _)⟩; have m0_ : Aside0 (w_gB3.heap[gB3]? = some (.cells #[.int .i64 x0, .int .i64 x1, .int .i64 x2, .int .i64 e] 101 (0, 0))) := ⟨BK_⟩; (try clear HB); have HB := n0_; have B3 := m0_; clear n0_ m0_; have cB3_0 : w_gB3.cell? ⟨gB3, 0, none⟩ = some (.int .i64 x0) := (blk_cell B3.out 0).trans rfl; have dB3_0 := blk_frozen B3.out 0; have cB3_1 : w_gB3.cell? ⟨gB3, 1, none⟩ = some (.int .i64 x1) := (blk_cell B3.out 1).trans rfl; have dB3_1 := blk_frozen B3.out 1; have cB3_2 : w_gB3.cell? ⟨gB3, 2, none⟩ = some (.int .i64 x2) := (blk_cell B3.out 2).trans rfl; have dB3_2 := blk_frozen B3.out 2; have cB3_3 : w_gB3.cell? ⟨gB3, 3, none⟩ = some (.int .i64 e) := (blk_cell B3.out 3).trans rfl; have dB3_3 := blk_frozen B3.out 3; clear hg_ BK_ hb_) | ((with_reducible refine gate_dst (N := 6) rfl ?_); refine box_event ?hg (N := 6) ?hd (cs := #[.int .i64 0, .int .i64 0, .int .i64 0, .int .i64 0]) (t := 101) ?hr ?_; (case hd => rfl); (case hg => rfl); (case hr => first | (go_simp; done) | (go_simp; rfl)); intro gB6 hg_ w_gB6 BK_ hb_; have ORD_ : Aside0 (((True) ∧ (w.heap.size ≤ gB3)) ∧ (gB3 < gB6 ∧ w.heap.size ≤ gB6)) := ⟨by refine ⟨ORD.out, ?_⟩; (have := HB.out.size); (have := blk_lt B3.out); omega⟩; clear ORD; have ORD := ORD_; clear ORD_; have n0_ : Aside0 (Below w.heap.size w w_gB6) := ⟨Hx.bb_below hb_ (by first | exact HB.out | exact below_drew1 HB.out | exact pw_below_drewN HB.out _)⟩; have n1_ : Aside0 (w_gB6.heap[gB3]? = some (.cells #[.int .i64 x0, .int .i64 x1, .int .i64 x2, .int .i64 e] 101 (0, 0))) := ⟨Hx.b_below hb_ B3.out⟩; have m0_ : Aside0 (w_gB6.heap[gB6]? = some (.cells #[.int .i64 0, .int .i64 0, .int .i64 0, .int .i64 0] 101 (0, 0))) := ⟨BK_⟩; (try clear cB3_0 dB3_0 cB3_1 dB3_1 cB3_2 dB3_2 cB3_3 dB3_3); (try clear HB); (try clear B3); have HB := n0_; have B3 := n1_; have B6 := m0_; clear n0_ n1_ m0_; have cB3_0 : w_gB6.cell? ⟨gB3, 0, none⟩ = some (.int .i64 x0) := (blk_cell B3.out 0).trans rfl; have dB3_0 := blk_frozen B3.out 0; have cB3_1 : w_gB6.cell? ⟨gB3, 1, none⟩ = some (.int .i64 x1) := (blk_cell B3.out 1).trans rfl; have dB3_1 := blk_frozen B3.out 1; have cB3_2 : w_gB6.cell? ⟨gB3, 2, none⟩ = some (.int .i64 x2) := (blk_cell B3.out 2).trans rfl; have dB3_2 := blk_frozen B3.out 2; have cB3_3 : w_gB6.cell? ⟨gB3, 3, none⟩ = some (.int .i64 e) := (blk_cell B3.out 3).trans rfl; have dB3_3 := blk_frozen B3.out 3; have cB6_0 : w_gB6.cell? ⟨gB6, 0, none⟩ = some (.int .i64 0) := (blk_cell B6.out 0).trans rfl; have dB6_0 := blk_frozen B6.out 0; have cB6_1 : w_gB6.cell? ⟨gB6, 1, none⟩ = some (.int .i64 0) := (blk_cell B6.out 1).trans rfl; have dB6_1 := blk_frozen B6.out 1; have cB6_2 : w_gB6.cell? ⟨gB6, 2, none⟩ = some (.int .i64 0) := (blk_cell B6.out 2).trans rfl; have dB6_2 := blk_frozen B6.out 2; have cB6_3 : w_gB6.cell? ⟨gB6, 3, none⟩ = some (.int .i64 0) := (blk_cell B6.out 3).trans rfl; have dB6_3 := blk_frozen B6.out 3; clear hg_ BK_ hb_) | ((with_reducible refine gate_dst (N := 7) rfl ?_); refine box_event ?hg (N := 7) ?hd (cs := #[.int .i64 0, .int .i64 0, .int .i64 0, .int .i64 0]) (t := 101) ?hr ?_; (case hd => rfl); (case hg => rfl); (case hr => first | (go_simp; done) | (go_simp; rfl)); intro gB7 hg_ w_gB7 BK_ hb_; have ORD_ : Aside0 ((((True) ∧ (w.heap.size ≤ gB3)) ∧ (gB3 < gB6 ∧ w.heap.size ≤ gB6)) ∧ (gB3 < gB7 ∧ gB6 < gB7 ∧ w.heap.size ≤ gB7)) := ⟨by refine ⟨ORD.out, ?_⟩; (have := HB.out.size); (have := blk_lt B3.out); (have := blk_lt B6.out); omega⟩; clear ORD; have ORD := ORD_; clear ORD_; have n0_ : Aside0 (Below w.heap.size w w_gB7) := ⟨Hx.bb_below hb_ (by first | exact HB.out | exact below_drew1 HB.out | exact pw_below_drewN HB.out _)⟩; have n1_ : Aside0 (w_gB7.heap[gB3]? = some (.cells #[.int .i64 x0, .int .i64 x1, .int .i64 x2, .int .i64 e] 101 (0, 0))) := ⟨Hx.b_below hb_ B3.out⟩; have n2_ : Aside0 (w_gB7.heap[gB6]? = some (.cells #[.int .i64 0, .int .i64 0, .int .i64 0, .int .i64 0] 101 (0, 0))) := ⟨Hx.b_below hb_ B6.out⟩; have m0_ : Aside0 (w_gB7.heap[gB7]? = some (.cells #[.int .i64 0, .int .i64 0, .int .i64 0, .int .i64 0] 101 (0, 0))) := ⟨BK_⟩; (try clear cB3_0 dB3_0 cB3_1 dB3_1 cB3_2 dB3_2 cB3_3 dB3_3 cB6_0 dB6_0 cB6_1 dB6_1 cB6_2 dB6_2 cB6_3 dB6_3); (try clear HB); (try clear B3); (try clear B6); have HB := n0_; have B3 := n1_; have B6 := n2_; have B7 := m0_; clear n0_ n1_ n2_ m0_; have cB3_0 : w_gB7.cell? ⟨gB3, 0, none⟩ = some (.int .i64 x0) := (blk_cell B3.out 0).trans rfl; have dB3_0 := blk_frozen B3.out 0; have cB3_1 : w_gB7.cell? ⟨gB3, 1, none⟩ = some (.int .i64 x1) := (blk_cell B3.out 1).trans rfl; have dB3_1 := blk_frozen B3.out 1; have cB3_2 : w_gB7.cell? ⟨gB3, 2, none⟩ = some (.int .i64 x2) := (blk_cell B3.out 2).trans rfl; have dB3_2 := blk_frozen B3.out 2; have cB3_3 : w_gB7.cell? ⟨gB3, 3, none⟩ = some (.int .i64 e) := (blk_cell B3.out 3).trans rfl; have dB3_3 := blk_frozen B3.out 3; have cB6_0 : w_gB7.cell? ⟨gB6, 0, none⟩ = some (.int .i64 0) := (blk_cell B6.out 0).trans rfl; have dB6_0 := blk_frozen B6.out 0; have cB6_1 : w_gB7.cell? ⟨gB6, 1, none⟩ = some (.int .i64 0) := (blk_cell B6.out 1).trans rfl; have dB6_1 := blk_frozen B6.out 1; have cB6_2 : w_gB7.cell? ⟨gB6, 2, none⟩ = some (.int .i64 0) := (blk_cell B6.out 2).trans rfl; have dB6_2 := blk_frozen B6.out 2; have cB6_3 : w_gB7.cell? ⟨gB6, 3, none⟩ = some (.int .i64 0) := (blk_cell B6.out 3).trans rfl; have dB6_3 := blk_frozen B6.out 3; have cB7_0 : w_gB7.cell? ⟨gB7, 0, none⟩ = some (.int .i64 0) := (blk_cell B7.out 0).trans rfl; have dB7_0 := blk_frozen B7.out 0; have cB7_1 : w_gB7.cell? ⟨gB7, 1, none⟩ = some (.int .i64 0) := (blk_cell B7.out 1).trans rfl; have dB7_1 := blk_frozen B7.out 1; have cB7_2 : w_gB7.cell? ⟨gB7, 2, none⟩ = some (.int .i64 0) := (blk_cell B7.out 2).trans rfl; have dB7_2 := blk_frozen B7.out 2; have cB7_3 : w_gB7.cell? ⟨gB7, 3, none⟩ = some (.int .i64 0) := (blk_cell B7.out 3).trans rfl; have dB7_3 := blk_frozen B7.out 3; clear hg_ BK_ hb_))
  go_region_held3 (fun w' => w'.cell? ⟨gB3, 0, none⟩ = some (.int .i64 x0) ∧ w'.cell? ⟨gB3, 1, none⟩ = some (.int .i64 x1) ∧ w'.cell? ⟨gB3, 2, none⟩ = some (.int .i64 x2) ∧ w'.cell? ⟨gB3, 3, none⟩ = some (.int .i64 e)) (first | exact ⟨(blk_cell (B3.out) 0).trans rfl, (blk_cell (B3.out) 1).trans rfl, (blk_cell (B3.out) 2).trans rfl, (blk_cell (B3.out) 3).trans rfl⟩ | exact ⟨(blk_cell (blk_alloc B3.out _) 0).trans rfl, (blk_cell (blk_alloc B3.out _) 1).trans rfl, (blk_cell (blk_alloc B3.out _) 2).trans rfl, (blk_cell (blk_alloc B3.out _) 3).trans rfl⟩ | exact ⟨(blk_cell (blk_alloc (blk_alloc B3.out _) _) 0).trans rfl, (blk_cell (blk_alloc (blk_alloc B3.out _) _) 1).trans rfl, (blk_cell (blk_alloc (blk_alloc B3.out _) _) 2).trans rfl, (blk_cell (blk_alloc (blk_alloc B3.out _) _) 3).trans rfl⟩ | exact ⟨(blk_cell (blk_far (blk_alloc B3.out _) (show gB3 ≠ w_gB7.heap.size by have := blk_lt B3.out; omega) _) 0).trans rfl, (blk_cell (blk_far (blk_alloc B3.out _) (show gB3 ≠ w_gB7.heap.size by have := blk_lt B3.out; omega) _) 1).trans rfl, (blk_cell (blk_far (blk_alloc B3.out _) (show gB3 ≠ w_gB7.heap.size by have := blk_lt B3.out; omega) _) 2).trans rfl, (blk_cell (blk_far (blk_alloc B3.out _) (show gB3 ≠ w_gB7.heap.size by have := blk_lt B3.out; omega) _) 3).trans rfl⟩) (fail)
  all_goals
    have F2 := Hz.two_alloc w_gB7 (.cells #[.int .i64 x0, .int .i64 x1, .int .i64 x2, .int .i64 e] 101) (.cells #[.int .i64 x0, .int .i64 x1, .int .i64 x2, .int .i64 e] 101)
    have ln := blk_lt B3.out
    have ln6 := blk_lt B6.out
    have ln7 := blk_lt B7.out
    have G3 := blk_alloc (blk_alloc B3.out (.cells #[.int .i64 x0, .int .i64 x1, .int .i64 x2, .int .i64 e] 101)) (.cells #[.int .i64 x0, .int .i64 x1, .int .i64 x2, .int .i64 e] 101)
    have G6 := blk_alloc (blk_alloc B6.out (.cells #[.int .i64 x0, .int .i64 x1, .int .i64 x2, .int .i64 e] 101)) (.cells #[.int .i64 x0, .int .i64 x1, .int .i64 x2, .int .i64 e] 101)
    have G7 := blk_alloc (blk_alloc B7.out (.cells #[.int .i64 x0, .int .i64 x1, .int .i64 x2, .int .i64 e] 101)) (.cells #[.int .i64 x0, .int .i64 x1, .int .i64 x2, .int .i64 e] 101)
    have GB := below_drew1 (below_alloc (below_alloc HB.out (.cells #[.int .i64 x0, .int .i64 x1, .int .i64 x2, .int .i64 e] 101)) (.cells #[.int .i64 x0, .int .i64 x1, .int .i64 x2, .int .i64 e] 101))
    replace G3 := blk_drew G3
    replace G6 := blk_drew G6
    replace G7 := blk_drew G7
    clear B3 B6 B7 HB cB3_0 dB3_0 cB3_1 dB3_1 cB3_2 dB3_2 cB3_3 dB3_3 cB6_0 dB6_0 cB6_1 dB6_1 cB6_2 dB6_2 cB6_3 dB6_3 cB7_0 dB7_0 cB7_1 dB7_1 cB7_2 dB7_2 cB7_3 dB7_3
    generalize ((w_gB7.alloc (.cells #[.int .i64 x0, .int .i64 x1, .int .i64 x2, .int .i64 e] 101)).alloc (.cells #[.int .i64 x0, .int .i64 x1, .int .i64 x2, .int .i64 e] 101)).drew = wA at F2 G3 G6 G7 GB ⊢
    obtain ⟨G8, G9⟩ := F2
  focus
    obtain ⟨g9, e9⟩ : ∃ g_, g_ = w_gB7.heap.size + 1 := ⟨_, rfl⟩
    obtain ⟨g8, e8⟩ : ∃ g_, g_ = w_gB7.heap.size := ⟨_, rfl⟩
    rw [← e9] at G9 ⊢
    rw [← e8] at G8 ⊢
    have B8 := Aside0.mk G8
    have B9 := Aside0.mk G9
    have B3 := Aside0.mk G3
    have B6 := Aside0.mk G6
    have B7 := Aside0.mk G7
    have HB := Aside0.mk GB
    have ORD2 : Aside0 (w.heap.size ≤ gB3 ∧ gB3 < gB6 ∧ gB6 < gB7 ∧ gB7 < g8 ∧ gB7 < g9 ∧ g8 ≠ g9) := ⟨by have := ORD.out; omega⟩
    clear G3 G6 G7 G8 G9 GB ln ln6 ln7 ORD e8 e9
    have ORD := ORD2
    clear ORD2
  rotate_left
  focus
    obtain ⟨g8, e8⟩ : ∃ g_, g_ = w_gB7.heap.size + 1 := ⟨_, rfl⟩
    obtain ⟨g9, e9⟩ : ∃ g_, g_ = w_gB7.heap.size := ⟨_, rfl⟩
    rw [← e8] at G9 ⊢
    rw [← e9] at G8 ⊢
    have B8 := Aside0.mk G9
    have B9 := Aside0.mk G8
    have B3 := Aside0.mk G3
    have B6 := Aside0.mk G6
    have B7 := Aside0.mk G7
    have HB := Aside0.mk GB
    have ORD2 : Aside0 (w.heap.size ≤ gB3 ∧ gB3 < gB6 ∧ gB6 < gB7 ∧ gB7 < g8 ∧ gB7 < g9 ∧ g8 ≠ g9) := ⟨by have := ORD.out; omega⟩
    clear G3 G6 G7 G8 G9 GB ln ln6 ln7 ORD e8 e9
    have ORD := ORD2
    clear ORD2
  all_goals
    have cB3_0 : wA.cell? ⟨gB3, 0, none⟩ = some (.int .i64 x0) := (blk_cell B3.out 0).trans rfl
    have dB3_0 := blk_frozen B3.out 0
    have cB3_1 : wA.cell? ⟨gB3, 1, none⟩ = some (.int .i64 x1) := (blk_cell B3.out 1).trans rfl
    have dB3_1 := blk_frozen B3.out 1
    have cB3_2 : wA.cell? ⟨gB3, 2, none⟩ = some (.int .i64 x2) := (blk_cell B3.out 2).trans rfl
    have dB3_2 := blk_frozen B3.out 2
    have cB3_3 : wA.cell? ⟨gB3, 3, none⟩ = some (.int .i64 e) := (blk_cell B3.out 3).trans rfl
    have dB3_3 := blk_frozen B3.out 3
    have cB6_0 : wA.cell? ⟨gB6, 0, none⟩ = some (.int .i64 0) := (blk_cell B6.out 0).trans rfl
    have dB6_0 := blk_frozen B6.out 0
    have cB6_1 : wA.cell? ⟨gB6, 1, none⟩ = some (.int .i64 0) := (blk_cell B6.out 1).trans rfl
    have dB6_1 := blk_frozen B6.out 1
    have cB6_2 : wA.cell? ⟨gB6, 2, none⟩ = some (.int .i64 0) := (blk_cell B6.out 2).trans rfl
    have dB6_2 := blk_frozen B6.out 2
    have cB6_3 : wA.cell? ⟨gB6, 3, none⟩ = some (.int .i64 0) := (blk_cell B6.out 3).trans rfl
    have dB6_3 := blk_frozen B6.out 3
    have cB7_0 : wA.cell? ⟨gB7, 0, none⟩ = some (.int .i64 0) := (blk_cell B7.out 0).trans rfl
    have dB7_0 := blk_frozen B7.out 0
    have cB7_1 : wA.cell? ⟨gB7, 1, none⟩ = some (.int .i64 0) := (blk_cell B7.out 1).trans rfl
    have dB7_1 := blk_frozen B7.out 1
    have cB7_2 : wA.cell? ⟨gB7, 2, none⟩ = some (.int .i64 0) := (blk_cell B7.out 2).trans rfl
    have dB7_2 := blk_frozen B7.out 2
    have cB7_3 : wA.cell? ⟨gB7, 3, none⟩ = some (.int .i64 0) := (blk_cell B7.out 3).trans rfl
    have dB7_3 := blk_frozen B7.out 3
    have cB8_0 : wA.cell? ⟨g8, 0, none⟩ = some (.int .i64 x0) := (blk_cell B8.out 0).trans rfl
    have dB8_0 := blk_frozen B8.out 0
    have cB8_1 : wA.cell? ⟨g8, 1, none⟩ = some (.int .i64 x1) := (blk_cell B8.out 1).trans rfl
    have dB8_1 := blk_frozen B8.out 1
    have cB8_2 : wA.cell? ⟨g8, 2, none⟩ = some (.int .i64 x2) := (blk_cell B8.out 2).trans rfl
    have dB8_2 := blk_frozen B8.out 2
    have cB8_3 : wA.cell? ⟨g8, 3, none⟩ = some (.int .i64 e) := (blk_cell B8.out 3).trans rfl
    have dB8_3 := blk_frozen B8.out 3
    have cB9_0 : wA.cell? ⟨g9, 0, none⟩ = some (.int .i64 x0) := (blk_cell B9.out 0).trans rfl
    have dB9_0 := blk_frozen B9.out 0
    have cB9_1 : wA.cell? ⟨g9, 1, none⟩ = some (.int .i64 x1) := (blk_cell B9.out 1).trans rfl
    have dB9_1 := blk_frozen B9.out 1
    have cB9_2 : wA.cell? ⟨g9, 2, none⟩ = some (.int .i64 x2) := (blk_cell B9.out 2).trans rfl
    have dB9_2 := blk_frozen B9.out 2
    have cB9_3 : wA.cell? ⟨g9, 3, none⟩ = some (.int .i64 e) := (blk_cell B9.out 3).trans rfl
    have dB9_3 := blk_frozen B9.out 3
    go_upto_region 2 with fail
    have ne0_1 : (gB3 = g8) = False := eq_false (by have := ORD.out; omega)
    have ne1_0 : (g8 = gB3) = False := eq_false (by have := ORD.out; omega)
    refine start_ (n := 11) (S := fun w' => w'.cell? ⟨gB3, 3, none⟩ = some (.int .i64 e)) (ds := [10]) #[false, false, false, false, false, false, false, false, false, false, false] (by kernel_rfl) rfl rfl ((blk_cell (B3.out) 3).trans rfl) (fun hHeld => ?_)
    refine pure_ (i := 0) (N := some 12) (v := ?_) (a' := ?_) #[true, false, false, false, false, false, false, false, false, false, false] rfl rfl (by kernel_rfl) (fun _ _ _ h => h) (Or.inl ⟨by rfl, ?_⟩) ?_ ?_
    rotate_left
    · intro w'
      go_simp
      with_reducible rfl
    rotate_left
    · simp only [Act.put, List.setIfInBounds_toArray, List.set_cons_zero, List.set_cons_succ, i64_w, i32_w]
      rfl
    refine pure_ (i := 1) (N := some 13) (v := ?_) (a' := ?_) #[true, true, false, false, false, false, false, false, false, false, false] rfl rfl (by kernel_rfl) (fun _ _ _ h => h) (Or.inl ⟨by rfl, ?_⟩) ?_ ?_
    rotate_left
    · intro w'
      go_simp
      with_reducible rfl
    rotate_left
    · simp only [Act.put, List.setIfInBounds_toArray, List.set_cons_zero, List.set_cons_succ, i64_w, i32_w]
      rfl
    refine pure_ (i := 2) (N := some 14) (v := ?_) (a' := ?_) #[true, true, true, false, false, false, false, false, false, false, false] rfl rfl (by kernel_rfl) (fun _ _ _ h => h) (Or.inl ⟨by rfl, ?_⟩) ?_ ?_
    rotate_left
    · intro w'
      go_simp
      with_reducible rfl
    rotate_left
    · simp only [Act.put, List.setIfInBounds_toArray, List.set_cons_zero, List.set_cons_succ, i64_w, i32_w]
      rfl
    refine pure_ (i := 3) (N := some 15) (v := ?_) (a' := ?_) #[true, true, true, true, false, false, false, false, false, false, false] rfl rfl (by kernel_rfl) (fun _ _ _ h => h) (Or.inl ⟨by rfl, ?_⟩) ?_ ?_
    rotate_left
    · intro w'
      go_simp
      with_reducible rfl
    rotate_left
    · simp only [Act.put, List.setIfInBounds_toArray, List.set_cons_zero, List.set_cons_succ, i64_w, i32_w]
      rfl
    refine pure_ (i := 6) (N := some 18) (v := ?_) (a' := ?_) #[true, true, true, true, false, false, true, false, false, false, false] rfl rfl (by kernel_rfl) (fun _ _ _ h => h) (Or.inl ⟨by rfl, ?_⟩) ?_ ?_
    rotate_left
    · intro w'
      go_simp
      with_reducible rfl
    rotate_left
    · simp only [Act.put, List.setIfInBounds_toArray, List.set_cons_zero, List.set_cons_succ, i64_w, i32_w]
      rfl
    refine pure_ (i := 7) (N := some 19) (v := ?_) (a' := ?_) #[true, true, true, true, false, false, true, true, false, false, false] rfl rfl (by kernel_rfl) (fun _ _ _ h => h) (Or.inl ⟨by rfl, ?_⟩) ?_ ?_
    rotate_left
    · intro w'
      go_simp
      with_reducible rfl
    rotate_left
    · simp only [Act.put, List.setIfInBounds_toArray, List.set_cons_zero, List.set_cons_succ, i64_w, i32_w]
      rfl
    refine take_ (i := 4) (N := some 16) (v := ?_) (a' := ?_) #[true, true, true, true, true, false, true, true, false, false, false] rfl rfl (by kernel_rfl) (fun _ _ _ h => h) (Or.inl ⟨by rfl, ?_⟩) hHeld ?_ ?_
    rotate_left
    · intro w' s0
      go_simp
      with_reducible rfl
    rotate_left
    · simp only [Act.put, List.setIfInBounds_toArray, List.set_cons_zero, List.set_cons_succ, i64_w, i32_w]
      rfl
    refine pure_ (i := 5) (N := some 17) (v := ?_) (a' := ?_) #[true, true, true, true, true, true, true, true, false, false, false] rfl rfl (by kernel_rfl) (fun _ _ _ h => h) (Or.inl ⟨by rfl, ?_⟩) ?_ ?_
    rotate_left
    · intro w'
      go_simp
      with_reducible rfl
    rotate_left
    · simp only [Act.put, List.setIfInBounds_toArray, List.set_cons_zero, List.set_cons_succ, i64_w, i32_w]
      rfl
    refine one_ (i := 8) (N := none) #[true, true, true, true, true, true, true, true, true, false, false] rfl rfl (by kernel_rfl) (by decide) (fun K hK => ?_)
    refine skip_ (w1 := ?_) (by rfl) rfl ?_ ?_
    rotate_left
    · go_simp
      rfl
    refine hK.out _ _ ((blk_cell (blk_drew (blk_far B3.out (show gB3 ≠ g8 by have := ORD.out; omega) _)) 3).trans rfl) (fun hHeld => ?_)
    clear hK K
    refine pure_ (i := 9) (N := some 20) (v := ?_) (a' := ?_) #[true, true, true, true, true, true, true, true, true, true, false] rfl rfl (by kernel_rfl) (fun _ _ _ h => h) (Or.inl ⟨by rfl, ?_⟩) ?_ ?_
    rotate_left
    · intro w'
      go_simp
      with_reducible rfl
    rotate_left
    · simp only [Act.put, List.setIfInBounds_toArray, List.set_cons_zero, List.set_cons_succ, i64_w, i32_w]
      rfl
    refine last_ (i := 10) (N := none) #[true, true, true, true, true, true, true, true, true, true, true] rfl rfl (by kernel_rfl) (by decide) (fun K hK => ?_)
    refine skip_ (w1 := ?_) (by rfl) rfl ?_ ?_
    rotate_left
    · go_simp
      rfl
    refine hK.out _ _ ?_
    clear hK K
    refine done_ (by kernel_rfl) ?_
    clear ne0_1 ne1_0
    all_goals
      obtain ⟨wB, hw_⟩ : ∃ W_, W_ = ((wA.setCell ⟨g8, 1, none⟩ (.int .i64 (f - 1))).setCell ⟨g8, 3, none⟩ (.int .i64 (e - 1))).drew := ⟨_, rfl⟩
      have e0_ : gB3 ≠ g8 := (by have := ORD.out; omega)
      have e1_ : gB6 ≠ g8 := (by have := ORD.out; omega)
      have e2_ : gB7 ≠ g8 := (by have := ORD.out; omega)
      have e3_ : g9 ≠ g8 := (by have := ORD.out; omega)
      have n0_ : Aside0 (Below w.heap.size w wB) := ⟨by rw [hw_]; exact below_drew1 (below_set (g := g8) (below_set (g := g8) HB.out (by have := ORD.out; omega)) (by have := ORD.out; omega))⟩
      have n1_ : Aside0 (wB.heap[gB3]? = some (.cells #[.int .i64 x0, .int .i64 x1, .int .i64 x2, .int .i64 e] 101 (0, 0))) := ⟨by rw [hw_]; exact blk_drew (blk_far (blk_far B3.out e0_ _) e0_ _)⟩
      have n2_ : Aside0 (wB.heap[gB6]? = some (.cells #[.int .i64 0, .int .i64 0, .int .i64 0, .int .i64 0] 101 (0, 0))) := ⟨by rw [hw_]; exact blk_drew (blk_far (blk_far B6.out e1_ _) e1_ _)⟩
      have n3_ : Aside0 (wB.heap[gB7]? = some (.cells #[.int .i64 0, .int .i64 0, .int .i64 0, .int .i64 0] 101 (0, 0))) := ⟨by rw [hw_]; exact blk_drew (blk_far (blk_far B7.out e2_ _) e2_ _)⟩
      have n4_ : Aside0 (wB.heap[g8]? = some (.cells #[.int .i64 x0, .int .i64 (f - 1), .int .i64 x2, .int .i64 (e - 1)] 101 (0, 0))) := ⟨by rw [hw_]; exact blk_drew (blk_put (blk_put B8.out 1 _ rfl) 3 _ rfl)⟩
      have n5_ : Aside0 (wB.heap[g9]? = some (.cells #[.int .i64 x0, .int .i64 x1, .int .i64 x2, .int .i64 e] 101 (0, 0))) := ⟨by rw [hw_]; exact blk_drew (blk_far (blk_far B9.out e3_ _) e3_ _)⟩
      (try clear cB3_0 dB3_0 cB3_1 dB3_1 cB3_2 dB3_2 cB3_3 dB3_3 cB6_0 dB6_0 cB6_1 dB6_1 cB6_2 dB6_2 cB6_3 dB6_3 cB7_0 dB7_0 cB7_1 dB7_1 cB7_2 dB7_2 cB7_3 dB7_3 cB8_0 dB8_0 cB8_1 dB8_1 cB8_2 dB8_2 cB8_3 dB8_3 cB9_0 dB9_0 cB9_1 dB9_1 cB9_2 dB9_2 cB9_3 dB9_3)
      (try clear HB)
      (try clear B3)
      (try clear B6)
      (try clear B7)
      (try clear B8)
      (try clear B9)
      rw [← hw_]
      clear hw_ e0_ e1_ e2_ e3_
      have HB := n0_
      have B3 := n1_
      have B6 := n2_
      have B7 := n3_
      have B8 := n4_
      have B9 := n5_
      clear n0_ n1_ n2_ n3_ n4_ n5_
      have cB3_0 : wB.cell? ⟨gB3, 0, none⟩ = some (.int .i64 x0) := (blk_cell B3.out 0).trans rfl
      have dB3_0 := blk_frozen B3.out 0
      have cB3_1 : wB.cell? ⟨gB3, 1, none⟩ = some (.int .i64 x1) := (blk_cell B3.out 1).trans rfl
      have dB3_1 := blk_frozen B3.out 1
      have cB3_2 : wB.cell? ⟨gB3, 2, none⟩ = some (.int .i64 x2) := (blk_cell B3.out 2).trans rfl
      have dB3_2 := blk_frozen B3.out 2
      have cB3_3 : wB.cell? ⟨gB3, 3, none⟩ = some (.int .i64 e) := (blk_cell B3.out 3).trans rfl
      have dB3_3 := blk_frozen B3.out 3
      have cB6_0 : wB.cell? ⟨gB6, 0, none⟩ = some (.int .i64 0) := (blk_cell B6.out 0).trans rfl
      have dB6_0 := blk_frozen B6.out 0
      have cB6_1 : wB.cell? ⟨gB6, 1, none⟩ = some (.int .i64 0) := (blk_cell B6.out 1).trans rfl
      have dB6_1 := blk_frozen B6.out 1
      have cB6_2 : wB.cell? ⟨gB6, 2, none⟩ = some (.int .i64 0) := (blk_cell B6.out 2).trans rfl
      have dB6_2 := blk_frozen B6.out 2
      have cB6_3 : wB.cell? ⟨gB6, 3, none⟩ = some (.int .i64 0) := (blk_cell B6.out 3).trans rfl
      have dB6_3 := blk_frozen B6.out 3
      have cB7_0 : wB.cell? ⟨gB7, 0, none⟩ = some (.int .i64 0) := (blk_cell B7.out 0).trans rfl
      have dB7_0 := blk_frozen B7.out 0
      have cB7_1 : wB.cell? ⟨gB7, 1, none⟩ = some (.int .i64 0) := (blk_cell B7.out 1).trans rfl
      have dB7_1 := blk_frozen B7.out 1
      have cB7_2 : wB.cell? ⟨gB7, 2, none⟩ = some (.int .i64 0) := (blk_cell B7.out 2).trans rfl
      have dB7_2 := blk_frozen B7.out 2
      have cB7_3 : wB.cell? ⟨gB7, 3, none⟩ = some (.int .i64 0) := (blk_cell B7.out 3).trans rfl
      have dB7_3 := blk_frozen B7.out 3
      have cB8_0 : wB.cell? ⟨g8, 0, none⟩ = some (.int .i64 x0) := (blk_cell B8.out 0).trans rfl
      have dB8_0 := blk_frozen B8.out 0
      have cB8_1 : wB.cell? ⟨g8, 1, none⟩ = some (.int .i64 (f - 1)) := (blk_cell B8.out 1).trans rfl
      have dB8_1 := blk_frozen B8.out 1
      have cB8_2 : wB.cell? ⟨g8, 2, none⟩ = some (.int .i64 x2) := (blk_cell B8.out 2).trans rfl
      have dB8_2 := blk_frozen B8.out 2
      have cB8_3 : wB.cell? ⟨g8, 3, none⟩ = some (.int .i64 (e - 1)) := (blk_cell B8.out 3).trans rfl
      have dB8_3 := blk_frozen B8.out 3
      have cB9_0 : wB.cell? ⟨g9, 0, none⟩ = some (.int .i64 x0) := (blk_cell B9.out 0).trans rfl
      have dB9_0 := blk_frozen B9.out 0
      have cB9_1 : wB.cell? ⟨g9, 1, none⟩ = some (.int .i64 x1) := (blk_cell B9.out 1).trans rfl
      have dB9_1 := blk_frozen B9.out 1
      have cB9_2 : wB.cell? ⟨g9, 2, none⟩ = some (.int .i64 x2) := (blk_cell B9.out 2).trans rfl
      have dB9_2 := blk_frozen B9.out 2
      have cB9_3 : wB.cell? ⟨g9, 3, none⟩ = some (.int .i64 e) := (blk_cell B9.out 3).trans rfl
      have dB9_3 := blk_frozen B9.out 3
      go_upto_region 4 with (first | ((with_reducible refine gate_store (t := 3) (p := 28) rfl ?_); refine store_event (t := 3) (p := 28) (v := ?vo_wC) (w1 := ((wB).setCell ⟨g9, 1, none⟩ (.int .i64 (x1 - f)))) ?hg ?ho ?hn ?hr ?_; (case ho => rfl); (case hg => rfl); (case hn => rfl); (case hr => first | (go_simp; done) | (go_simp; rfl)); intro wC hw_; have n0_ : Aside0 (Below w.heap.size w wC) := ⟨by rw [hw_]; exact below_set (g := g9) HB.out (by have := ORD.out; omega)⟩; have n1_ : Aside0 (wC.heap[gB3]? = some (.cells #[.int .i64 x0, .int .i64 x1, .int .i64 x2, .int .i64 e] 101 (0, 0))) := ⟨by rw [hw_]; exact blk_far B3.out (show gB3 ≠ g9 by have := ORD.out; omega) _⟩; have n2_ : Aside0 (wC.heap[gB6]? = some (.cells #[.int .i64 0, .int .i64 0, .int .i64 0, .int .i64 0] 101 (0, 0))) := ⟨by rw [hw_]; exact blk_far B6.out (show gB6 ≠ g9 by have := ORD.out; omega) _⟩; have n3_ : Aside0 (wC.heap[gB7]? = some (.cells #[.int .i64 0, .int .i64 0, .int .i64 0, .int .i64 0] 101 (0, 0))) := ⟨by rw [hw_]; exact blk_far B7.out (show gB7 ≠ g9 by have := ORD.out; omega) _⟩; have n4_ : Aside0 (wC.heap[g8]? = some (.cells #[.int .i64 x0, .int .i64 (f - 1), .int .i64 x2, .int .i64 (e - 1)] 101 (0, 0))) := ⟨by rw [hw_]; exact blk_far B8.out (show g8 ≠ g9 by have := ORD.out; omega) _⟩; have n5_ : Aside0 (wC.heap[g9]? = some (.cells #[.int .i64 x0, .int .i64 (x1 - f), .int .i64 x2, .int .i64 e] 101 (0, 0))) := ⟨by rw [hw_]; exact blk_put B9.out 1 _ rfl⟩; (try clear cB3_0 dB3_0 cB3_1 dB3_1 cB3_2 dB3_2 cB3_3 dB3_3 cB6_0 dB6_0 cB6_1 dB6_1 cB6_2 dB6_2 cB6_3 dB6_3 cB7_0 dB7_0 cB7_1 dB7_1 cB7_2 dB7_2 cB7_3 dB7_3 cB8_0 dB8_0 cB8_1 dB8_1 cB8_2 dB8_2 cB8_3 dB8_3 cB9_0 dB9_0 cB9_1 dB9_1 cB9_2 dB9_2 cB9_3 dB9_3); (try clear HB); (try clear B3); (try clear B6); (try clear B7); (try clear B8); (try clear B9); have HB := n0_; have B3 := n1_; have B6 := n2_; have B7 := n3_; have B8 := n4_; have B9 := n5_; clear n0_ n1_ n2_ n3_ n4_ n5_; have cB3_0 : wC.cell? ⟨gB3, 0, none⟩ = some (.int .i64 x0) := (blk_cell B3.out 0).trans rfl; have dB3_0 := blk_frozen B3.out 0; have cB3_1 : wC.cell? ⟨gB3, 1, none⟩ = some (.int .i64 x1) := (blk_cell B3.out 1).trans rfl; have dB3_1 := blk_frozen B3.out 1; have cB3_2 : wC.cell? ⟨gB3, 2, none⟩ = some (.int .i64 x2) := (blk_cell B3.out 2).trans rfl; have dB3_2 := blk_frozen B3.out 2; have cB3_3 : wC.cell? ⟨gB3, 3, none⟩ = some (.int .i64 e) := (blk_cell B3.out 3).trans rfl; have dB3_3 := blk_frozen B3.out 3; have cB6_0 : wC.cell? ⟨gB6, 0, none⟩ = some (.int .i64 0) := (blk_cell B6.out 0).trans rfl; have dB6_0 := blk_frozen B6.out 0; have cB6_1 : wC.cell? ⟨gB6, 1, none⟩ = some (.int .i64 0) := (blk_cell B6.out 1).trans rfl; have dB6_1 := blk_frozen B6.out 1; have cB6_2 : wC.cell? ⟨gB6, 2, none⟩ = some (.int .i64 0) := (blk_cell B6.out 2).trans rfl; have dB6_2 := blk_frozen B6.out 2; have cB6_3 : wC.cell? ⟨gB6, 3, none⟩ = some (.int .i64 0) := (blk_cell B6.out 3).trans rfl; have dB6_3 := blk_frozen B6.out 3; have cB7_0 : wC.cell? ⟨gB7, 0, none⟩ = some (.int .i64 0) := (blk_cell B7.out 0).trans rfl; have dB7_0 := blk_frozen B7.out 0; have cB7_1 : wC.cell? ⟨gB7, 1, none⟩ = some (.int .i64 0) := (blk_cell B7.out 1).trans rfl; have dB7_1 := blk_frozen B7.out 1; have cB7_2 : wC.cell? ⟨gB7, 2, none⟩ = some (.int .i64 0) := (blk_cell B7.out 2).trans rfl; have dB7_2 := blk_frozen B7.out 2; have cB7_3 : wC.cell? ⟨gB7, 3, none⟩ = some (.int .i64 0) := (blk_cell B7.out 3).trans rfl; have dB7_3 := blk_frozen B7.out 3; have cB8_0 : wC.cell? ⟨g8, 0, none⟩ = some (.int .i64 x0) := (blk_cell B8.out 0).trans rfl; have dB8_0 := blk_frozen B8.out 0; have cB8_1 : wC.cell? ⟨g8, 1, none⟩ = some (.int .i64 (f - 1)) := (blk_cell B8.out 1).trans rfl; have dB8_1 := blk_frozen B8.out 1; have cB8_2 : wC.cell? ⟨g8, 2, none⟩ = some (.int .i64 x2) := (blk_cell B8.out 2).trans rfl; have dB8_2 := blk_frozen B8.out 2; have cB8_3 : wC.cell? ⟨g8, 3, none⟩ = some (.int .i64 (e - 1)) := (blk_cell B8.out 3).trans rfl; have dB8_3 := blk_frozen B8.out 3; have cB9_0 : wC.cell? ⟨g9, 0, none⟩ = some (.int .i64 x0) := (blk_cell B9.out 0).trans rfl; have dB9_0 := blk_frozen B9.out 0; have cB9_1 : wC.cell? ⟨g9, 1, none⟩ = some (.int .i64 (x1 - f)) := (blk_cell B9.out 1).trans rfl; have dB9_1 := blk_frozen B9.out 1; have cB9_2 : wC.cell? ⟨g9, 2, none⟩ = some (.int .i64 x2) := (blk_cell B9.out 2).trans rfl; have dB9_2 := blk_frozen B9.out 2; have cB9_3 : wC.cell? ⟨g9, 3, none⟩ = some (.int .i64 e) := (blk_cell B9.out 3).trans rfl; have dB9_3 := blk_frozen B9.out 3; clear hw_ ))
      have ne0_1 : (gB6 = gB7) = False := eq_false (by have := ORD.out; omega)
      have ne0_2 : (gB6 = g8) = False := eq_false (by have := ORD.out; omega)
      have ne0_3 : (gB6 = g9) = False := eq_false (by have := ORD.out; omega)
      have ne1_0 : (gB7 = gB6) = False := eq_false (by have := ORD.out; omega)
      have ne1_2 : (gB7 = g8) = False := eq_false (by have := ORD.out; omega)
      have ne1_3 : (gB7 = g9) = False := eq_false (by have := ORD.out; omega)
      have ne2_0 : (g8 = gB6) = False := eq_false (by have := ORD.out; omega)
      have ne2_1 : (g8 = gB7) = False := eq_false (by have := ORD.out; omega)
      have ne2_3 : (g8 = g9) = False := eq_false (by have := ORD.out; omega)
      have ne3_0 : (g9 = gB6) = False := eq_false (by have := ORD.out; omega)
      have ne3_1 : (g9 = gB7) = False := eq_false (by have := ORD.out; omega)
      have ne3_2 : (g9 = g8) = False := eq_false (by have := ORD.out; omega)
      refine start_ (n := 4) (S := fun w' => w'.cell? ⟨g8, 0, none⟩ = some (.int .i64 x0) ∧ w'.cell? ⟨g8, 1, none⟩ = some (.int .i64 (f - 1)) ∧ w'.cell? ⟨g8, 2, none⟩ = some (.int .i64 x2) ∧ w'.cell? ⟨g8, 3, none⟩ = some (.int .i64 (e - 1)) ∧ w'.cell? ⟨g9, 0, none⟩ = some (.int .i64 x0) ∧ w'.cell? ⟨g9, 1, none⟩ = some (.int .i64 (x1 - f)) ∧ w'.cell? ⟨g9, 2, none⟩ = some (.int .i64 x2) ∧ w'.cell? ⟨g9, 3, none⟩ = some (.int .i64 e)) (ds := [3]) #[false, false, false, false] (by kernel_rfl) rfl rfl ⟨(blk_cell (B8.out) 0).trans rfl, (blk_cell (B8.out) 1).trans rfl, (blk_cell (B8.out) 2).trans rfl, (blk_cell (B8.out) 3).trans rfl, (blk_cell (B9.out) 0).trans rfl, (blk_cell (B9.out) 1).trans rfl, (blk_cell (B9.out) 2).trans rfl, (blk_cell (B9.out) 3).trans rfl⟩ (fun hHeld => ?_)
      refine take_ (i := 0) (N := some 29) (v := ?_) (a' := ?_) #[true, false, false, false] rfl rfl (by kernel_rfl) (fun _ _ _ h => h) (Or.inl ⟨by rfl, ?_⟩) hHeld ?_ ?_
      rotate_left
      · rintro w' ⟨s0, s1, s2, s3, s4, s5, s6, s7⟩
        go_simp
        with_reducible rfl
      rotate_left
      · simp only [Act.put, List.setIfInBounds_toArray, List.set_cons_zero, List.set_cons_succ, i64_w, i32_w]
        rfl
      refine take_ (i := 1) (N := some 30) (v := ?_) (a' := ?_) #[true, true, false, false] rfl rfl (by kernel_rfl) (fun _ _ _ h => h) (Or.inl ⟨by rfl, ?_⟩) hHeld ?_ ?_
      rotate_left
      · rintro w' ⟨s0, s1, s2, s3, s4, s5, s6, s7⟩
        go_simp
        with_reducible rfl
      rotate_left
      · simp only [Act.put, List.setIfInBounds_toArray, List.set_cons_zero, List.set_cons_succ, i64_w, i32_w]
        rfl
      refine one_ (i := 2) (N := none) #[true, true, true, false] rfl rfl (by kernel_rfl) (by decide) (fun K hK => ?_)
      refine skip_ (w1 := ?_) (by rfl) rfl ?_ ?_
      rotate_left
      · go_simp
        rfl
      refine hK.out _ _ ⟨(blk_cell (blk_drew (blk_far (blk_far (blk_far (blk_far (B8.out) (show g8 ≠ gB6 by have := ORD.out; omega) _) (show g8 ≠ gB6 by have := ORD.out; omega) _) (show g8 ≠ gB6 by have := ORD.out; omega) _) (show g8 ≠ gB6 by have := ORD.out; omega) _)) 0).trans rfl, (blk_cell (blk_drew (blk_far (blk_far (blk_far (blk_far (B8.out) (show g8 ≠ gB6 by have := ORD.out; omega) _) (show g8 ≠ gB6 by have := ORD.out; omega) _) (show g8 ≠ gB6 by have := ORD.out; omega) _) (show g8 ≠ gB6 by have := ORD.out; omega) _)) 1).trans rfl, (blk_cell (blk_drew (blk_far (blk_far (blk_far (blk_far (B8.out) (show g8 ≠ gB6 by have := ORD.out; omega) _) (show g8 ≠ gB6 by have := ORD.out; omega) _) (show g8 ≠ gB6 by have := ORD.out; omega) _) (show g8 ≠ gB6 by have := ORD.out; omega) _)) 2).trans rfl, (blk_cell (blk_drew (blk_far (blk_far (blk_far (blk_far (B8.out) (show g8 ≠ gB6 by have := ORD.out; omega) _) (show g8 ≠ gB6 by have := ORD.out; omega) _) (show g8 ≠ gB6 by have := ORD.out; omega) _) (show g8 ≠ gB6 by have := ORD.out; omega) _)) 3).trans rfl, (blk_cell (blk_drew (blk_far (blk_far (blk_far (blk_far (B9.out) (show g9 ≠ gB6 by have := ORD.out; omega) _) (show g9 ≠ gB6 by have := ORD.out; omega) _) (show g9 ≠ gB6 by have := ORD.out; omega) _) (show g9 ≠ gB6 by have := ORD.out; omega) _)) 0).trans rfl, (blk_cell (blk_drew (blk_far (blk_far (blk_far (blk_far (B9.out) (show g9 ≠ gB6 by have := ORD.out; omega) _) (show g9 ≠ gB6 by have := ORD.out; omega) _) (show g9 ≠ gB6 by have := ORD.out; omega) _) (show g9 ≠ gB6 by have := ORD.out; omega) _)) 1).trans rfl, (blk_cell (blk_drew (blk_far (blk_far (blk_far (blk_far (B9.out) (show g9 ≠ gB6 by have := ORD.out; omega) _) (show g9 ≠ gB6 by have := ORD.out; omega) _) (show g9 ≠ gB6 by have := ORD.out; omega) _) (show g9 ≠ gB6 by have := ORD.out; omega) _)) 2).trans rfl, (blk_cell (blk_drew (blk_far (blk_far (blk_far (blk_far (B9.out) (show g9 ≠ gB6 by have := ORD.out; omega) _) (show g9 ≠ gB6 by have := ORD.out; omega) _) (show g9 ≠ gB6 by have := ORD.out; omega) _) (show g9 ≠ gB6 by have := ORD.out; omega) _)) 3).trans rfl⟩ (fun hHeld => ?_)
      clear hK K
      refine last_ (i := 3) (N := none) #[true, true, true, true] rfl rfl (by kernel_rfl) (by decide) (fun K hK => ?_)
      refine skip_ (w1 := ?_) (by rfl) rfl ?_ ?_
      rotate_left
      · go_simp
        rfl
      refine hK.out _ _ ?_
      clear hK K
      refine done_ (by kernel_rfl) ?_
      clear ne0_1 ne0_2 ne0_3 ne1_0 ne1_2 ne1_3 ne2_0 ne2_1 ne2_3 ne3_0 ne3_1 ne3_2
      all_goals
        obtain ⟨wD, hw_⟩ : ∃ W_, W_ = (((((((((wC).setCell ⟨gB6, 0, none⟩ (.int .i64 x0)).setCell ⟨gB6, 1, none⟩ (.int .i64 (f - 1))).setCell ⟨gB6, 2, none⟩ (.int .i64 x2)).setCell ⟨gB6, 3, none⟩ (.int .i64 (e - 1))).setCell ⟨gB7, 0, none⟩ (.int .i64 x0)).setCell ⟨gB7, 1, none⟩ (.int .i64 (x1 - f))).setCell ⟨gB7, 2, none⟩ (.int .i64 x2)).setCell ⟨gB7, 3, none⟩ (.int .i64 e)).drew := ⟨_, rfl⟩
        have e0_ : gB3 ≠ gB6 := (by have := ORD.out; omega)
        have e1_ : gB3 ≠ gB7 := (by have := ORD.out; omega)
        have e2_ : gB6 ≠ gB7 := (by have := ORD.out; omega)
        have e3_ : gB7 ≠ gB6 := (by have := ORD.out; omega)
        have e4_ : g8 ≠ gB6 := (by have := ORD.out; omega)
        have e5_ : g8 ≠ gB7 := (by have := ORD.out; omega)
        have e6_ : g9 ≠ gB6 := (by have := ORD.out; omega)
        have e7_ : g9 ≠ gB7 := (by have := ORD.out; omega)
        have n0_ : Aside0 (Below w.heap.size w wD) := ⟨by rw [hw_]; exact below_drew1 (below_set (g := gB7) (below_set (g := gB7) (below_set (g := gB7) (below_set (g := gB7) (below_set (g := gB6) (below_set (g := gB6) (below_set (g := gB6) (below_set (g := gB6) HB.out (by have := ORD.out; omega)) (by have := ORD.out; omega)) (by have := ORD.out; omega)) (by have := ORD.out; omega)) (by have := ORD.out; omega)) (by have := ORD.out; omega)) (by have := ORD.out; omega)) (by have := ORD.out; omega))⟩
        have n1_ : Aside0 (wD.heap[gB3]? = some (.cells #[.int .i64 x0, .int .i64 x1, .int .i64 x2, .int .i64 e] 101 (0, 0))) := ⟨by rw [hw_]; exact blk_drew (blk_far (blk_far (blk_far (blk_far (blk_far (blk_far (blk_far (blk_far B3.out e0_ _) e0_ _) e0_ _) e0_ _) e1_ _) e1_ _) e1_ _) e1_ _)⟩
        have n2_ : Aside0 (wD.heap[gB6]? = some (.cells #[.int .i64 x0, .int .i64 (f - 1), .int .i64 x2, .int .i64 (e - 1)] 101 (0, 0))) := ⟨by rw [hw_]; exact blk_drew (blk_far (blk_far (blk_far (blk_far (blk_put (blk_put (blk_put (blk_put B6.out 0 _ rfl) 1 _ rfl) 2 _ rfl) 3 _ rfl) e2_ _) e2_ _) e2_ _) e2_ _)⟩
        have n3_ : Aside0 (wD.heap[gB7]? = some (.cells #[.int .i64 x0, .int .i64 (x1 - f), .int .i64 x2, .int .i64 e] 101 (0, 0))) := ⟨by rw [hw_]; exact blk_drew (blk_put (blk_put (blk_put (blk_put (blk_far (blk_far (blk_far (blk_far B7.out e3_ _) e3_ _) e3_ _) e3_ _) 0 _ rfl) 1 _ rfl) 2 _ rfl) 3 _ rfl)⟩
        have n4_ : Aside0 (wD.heap[g8]? = some (.cells #[.int .i64 x0, .int .i64 (f - 1), .int .i64 x2, .int .i64 (e - 1)] 101 (0, 0))) := ⟨by rw [hw_]; exact blk_drew (blk_far (blk_far (blk_far (blk_far (blk_far (blk_far (blk_far (blk_far B8.out e4_ _) e4_ _) e4_ _) e4_ _) e5_ _) e5_ _) e5_ _) e5_ _)⟩
        have n5_ : Aside0 (wD.heap[g9]? = some (.cells #[.int .i64 x0, .int .i64 (x1 - f), .int .i64 x2, .int .i64 e] 101 (0, 0))) := ⟨by rw [hw_]; exact blk_drew (blk_far (blk_far (blk_far (blk_far (blk_far (blk_far (blk_far (blk_far B9.out e6_ _) e6_ _) e6_ _) e6_ _) e7_ _) e7_ _) e7_ _) e7_ _)⟩
        (try clear cB3_0 dB3_0 cB3_1 dB3_1 cB3_2 dB3_2 cB3_3 dB3_3 cB6_0 dB6_0 cB6_1 dB6_1 cB6_2 dB6_2 cB6_3 dB6_3 cB7_0 dB7_0 cB7_1 dB7_1 cB7_2 dB7_2 cB7_3 dB7_3 cB8_0 dB8_0 cB8_1 dB8_1 cB8_2 dB8_2 cB8_3 dB8_3 cB9_0 dB9_0 cB9_1 dB9_1 cB9_2 dB9_2 cB9_3 dB9_3)
        (try clear HB)
        (try clear B3)
        (try clear B6)
        (try clear B7)
        (try clear B8)
        (try clear B9)
        rw [← hw_]
        clear hw_ e0_ e1_ e2_ e3_ e4_ e5_ e6_ e7_
        have HB := n0_
        have B3 := n1_
        have B6 := n2_
        have B7 := n3_
        have B8 := n4_
        have B9 := n5_
        clear n0_ n1_ n2_ n3_ n4_ n5_
        have cB3_0 : wD.cell? ⟨gB3, 0, none⟩ = some (.int .i64 x0) := (blk_cell B3.out 0).trans rfl
        have dB3_0 := blk_frozen B3.out 0
        have cB3_1 : wD.cell? ⟨gB3, 1, none⟩ = some (.int .i64 x1) := (blk_cell B3.out 1).trans rfl
        have dB3_1 := blk_frozen B3.out 1
        have cB3_2 : wD.cell? ⟨gB3, 2, none⟩ = some (.int .i64 x2) := (blk_cell B3.out 2).trans rfl
        have dB3_2 := blk_frozen B3.out 2
        have cB3_3 : wD.cell? ⟨gB3, 3, none⟩ = some (.int .i64 e) := (blk_cell B3.out 3).trans rfl
        have dB3_3 := blk_frozen B3.out 3
        have cB6_0 : wD.cell? ⟨gB6, 0, none⟩ = some (.int .i64 x0) := (blk_cell B6.out 0).trans rfl
        have dB6_0 := blk_frozen B6.out 0
        have cB6_1 : wD.cell? ⟨gB6, 1, none⟩ = some (.int .i64 (f - 1)) := (blk_cell B6.out 1).trans rfl
        have dB6_1 := blk_frozen B6.out 1
        have cB6_2 : wD.cell? ⟨gB6, 2, none⟩ = some (.int .i64 x2) := (blk_cell B6.out 2).trans rfl
        have dB6_2 := blk_frozen B6.out 2
        have cB6_3 : wD.cell? ⟨gB6, 3, none⟩ = some (.int .i64 (e - 1)) := (blk_cell B6.out 3).trans rfl
        have dB6_3 := blk_frozen B6.out 3
        have cB7_0 : wD.cell? ⟨gB7, 0, none⟩ = some (.int .i64 x0) := (blk_cell B7.out 0).trans rfl
        have dB7_0 := blk_frozen B7.out 0
        have cB7_1 : wD.cell? ⟨gB7, 1, none⟩ = some (.int .i64 (x1 - f)) := (blk_cell B7.out 1).trans rfl
        have dB7_1 := blk_frozen B7.out 1
        have cB7_2 : wD.cell? ⟨gB7, 2, none⟩ = some (.int .i64 x2) := (blk_cell B7.out 2).trans rfl
        have dB7_2 := blk_frozen B7.out 2
        have cB7_3 : wD.cell? ⟨gB7, 3, none⟩ = some (.int .i64 e) := (blk_cell B7.out 3).trans rfl
        have dB7_3 := blk_frozen B7.out 3
        have cB8_0 : wD.cell? ⟨g8, 0, none⟩ = some (.int .i64 x0) := (blk_cell B8.out 0).trans rfl
        have dB8_0 := blk_frozen B8.out 0
        have cB8_1 : wD.cell? ⟨g8, 1, none⟩ = some (.int .i64 (f - 1)) := (blk_cell B8.out 1).trans rfl
        have dB8_1 := blk_frozen B8.out 1
        have cB8_2 : wD.cell? ⟨g8, 2, none⟩ = some (.int .i64 x2) := (blk_cell B8.out 2).trans rfl
        have dB8_2 := blk_frozen B8.out 2
        have cB8_3 : wD.cell? ⟨g8, 3, none⟩ = some (.int .i64 (e - 1)) := (blk_cell B8.out 3).trans rfl
        have dB8_3 := blk_frozen B8.out 3
        have cB9_0 : wD.cell? ⟨g9, 0, none⟩ = some (.int .i64 x0) := (blk_cell B9.out 0).trans rfl
        have dB9_0 := blk_frozen B9.out 0
        have cB9_1 : wD.cell? ⟨g9, 1, none⟩ = some (.int .i64 (x1 - f)) := (blk_cell B9.out 1).trans rfl
        have dB9_1 := blk_frozen B9.out 1
        have cB9_2 : wD.cell? ⟨g9, 2, none⟩ = some (.int .i64 x2) := (blk_cell B9.out 2).trans rfl
        have dB9_2 := blk_frozen B9.out 2
        have cB9_3 : wD.cell? ⟨g9, 3, none⟩ = some (.int .i64 e) := (blk_cell B9.out 3).trans rfl
        have dB9_3 := blk_frozen B9.out 3
        go_wp2
        exact bodyPost_ret (v := .tuple #[.agg #[.int .i64 x0, .int .i64 (f - 1), .int .i64 x2, .int .i64 (e - 1)], .agg #[.int .i64 x0, .int .i64 (x1 - f), .int .i64 x2, .int .i64 e]]) (by simp [results, Try.results127, go_sem, cB6_0, cB6_1, cB6_2, cB6_3, cB7_0, cB7_1, cB7_2, cB7_3]) rfl ⟨rfl, HB.out⟩

set_option maxHeartbeats 8000000 in
set_option maxRecDepth 100000 in
theorem parts2.calls (x0 x1 x2 e f : Int) (w : World) (hx : f ≤ x2 ∧ 1 ≤ f ∧ x2 ≤ 8 ∧ 0 ≤ e ∧ e ≤ 6) :
    Calls Try.prog 127 #[.agg #[.int .i64 x0, .int .i64 x1, .int .i64 x2, .int .i64 e], .int .i64 2, .int .i64 f] w fun e_ w' => e_ = .returned (.tuple #[.agg #[.int .i64 x0, .int .i64 x1, .int .i64 (f - 1), .int .i64 (e - 1)], .agg #[.int .i64 x0, .int .i64 x1, .int .i64 (x2 - f), .int .i64 e]]) ∧ Below w.heap.size w w' := by
  have HB := Aside0.mk (Below.refl w.heap.size w)
  have wf1 : IntKind.i64.wrap (f - 1) = f - 1 := Hw.wrap_w (by omega) (by omega)
  have we1 : IntKind.i64.wrap (e - 1) = e - 1 := Hw.wrap_w (by omega) (by omega)
  have wx1 : IntKind.i64.wrap (x2 - f) = x2 - f := Hw.wrap_w (by omega) (by omega)
  clear hx
  go_enter Try.func127, Try.ntmps127
  go_upto_region 1 with (first | ((with_reducible refine gate_dst (N := 3) rfl ?_); refine box_event ?hg (N := 3) ?hd (cs := #[.int .i64 x0, .int .i64 x1, .int .i64 x2, .int .i64 e]) (t := 101) ?hr ?_; (case hd => rfl); (case hg => rfl); (case hr => first | (go_simp; done) | (go_simp; rfl)); intro gB3 hg_ w_gB3 BK_ hb_; have ORD_ : Aside0 ((True) ∧ (w.heap.size ≤ gB3)) := ⟨by refine ⟨trivial, ?_⟩; (have := HB.out.size); omega⟩; have ORD := ORD_; clear ORD_; have n0_ : Aside0 (Below w.heap.size w w_gB3) := ⟨Hx.bb_below hb_ (by first | exact HB.out | exact below_drew1 HB.out | exact pw_below_drewN HB.out _)⟩; have m0_ : Aside0 (w_gB3.heap[gB3]? = some (.cells #[.int .i64 x0, .int .i64 x1, .int .i64 x2, .int .i64 e] 101 (0, 0))) := ⟨BK_⟩; (try clear HB); have HB := n0_; have B3 := m0_; clear n0_ m0_; have cB3_0 : w_gB3.cell? ⟨gB3, 0, none⟩ = some (.int .i64 x0) := (blk_cell B3.out 0).trans rfl; have dB3_0 := blk_frozen B3.out 0; have cB3_1 : w_gB3.cell? ⟨gB3, 1, none⟩ = some (.int .i64 x1) := (blk_cell B3.out 1).trans rfl; have dB3_1 := blk_frozen B3.out 1; have cB3_2 : w_gB3.cell? ⟨gB3, 2, none⟩ = some (.int .i64 x2) := (blk_cell B3.out 2).trans rfl; have dB3_2 := blk_frozen B3.out 2; have cB3_3 : w_gB3.cell? ⟨gB3, 3, none⟩ = some (.int .i64 e) := (blk_cell B3.out 3).trans rfl; have dB3_3 := blk_frozen B3.out 3; clear hg_ BK_ hb_) | ((with_reducible refine gate_dst (N := 6) rfl ?_); refine box_event ?hg (N := 6) ?hd (cs := #[.int .i64 0, .int .i64 0, .int .i64 0, .int .i64 0]) (t := 101) ?hr ?_; (case hd => rfl); (case hg => rfl); (case hr => first | (go_simp; done) | (go_simp; rfl)); intro gB6 hg_ w_gB6 BK_ hb_; have ORD_ : Aside0 (((True) ∧ (w.heap.size ≤ gB3)) ∧ (gB3 < gB6 ∧ w.heap.size ≤ gB6)) := ⟨by refine ⟨ORD.out, ?_⟩; (have := HB.out.size); (have := blk_lt B3.out); omega⟩; clear ORD; have ORD := ORD_; clear ORD_; have n0_ : Aside0 (Below w.heap.size w w_gB6) := ⟨Hx.bb_below hb_ (by first | exact HB.out | exact below_drew1 HB.out | exact pw_below_drewN HB.out _)⟩; have n1_ : Aside0 (w_gB6.heap[gB3]? = some (.cells #[.int .i64 x0, .int .i64 x1, .int .i64 x2, .int .i64 e] 101 (0, 0))) := ⟨Hx.b_below hb_ B3.out⟩; have m0_ : Aside0 (w_gB6.heap[gB6]? = some (.cells #[.int .i64 0, .int .i64 0, .int .i64 0, .int .i64 0] 101 (0, 0))) := ⟨BK_⟩; (try clear cB3_0 dB3_0 cB3_1 dB3_1 cB3_2 dB3_2 cB3_3 dB3_3); (try clear HB); (try clear B3); have HB := n0_; have B3 := n1_; have B6 := m0_; clear n0_ n1_ m0_; have cB3_0 : w_gB6.cell? ⟨gB3, 0, none⟩ = some (.int .i64 x0) := (blk_cell B3.out 0).trans rfl; have dB3_0 := blk_frozen B3.out 0; have cB3_1 : w_gB6.cell? ⟨gB3, 1, none⟩ = some (.int .i64 x1) := (blk_cell B3.out 1).trans rfl; have dB3_1 := blk_frozen B3.out 1; have cB3_2 : w_gB6.cell? ⟨gB3, 2, none⟩ = some (.int .i64 x2) := (blk_cell B3.out 2).trans rfl; have dB3_2 := blk_frozen B3.out 2; have cB3_3 : w_gB6.cell? ⟨gB3, 3, none⟩ = some (.int .i64 e) := (blk_cell B3.out 3).trans rfl; have dB3_3 := blk_frozen B3.out 3; have cB6_0 : w_gB6.cell? ⟨gB6, 0, none⟩ = some (.int .i64 0) := (blk_cell B6.out 0).trans rfl; have dB6_0 := blk_frozen B6.out 0; have cB6_1 : w_gB6.cell? ⟨gB6, 1, none⟩ = some (.int .i64 0) := (blk_cell B6.out 1).trans rfl; have dB6_1 := blk_frozen B6.out 1; have cB6_2 : w_gB6.cell? ⟨gB6, 2, none⟩ = some (.int .i64 0) := (blk_cell B6.out 2).trans rfl; have dB6_2 := blk_frozen B6.out 2; have cB6_3 : w_gB6.cell? ⟨gB6, 3, none⟩ = some (.int .i64 0) := (blk_cell B6.out 3).trans rfl; have dB6_3 := blk_frozen B6.out 3; clear hg_ BK_ hb_) | ((with_reducible refine gate_dst (N := 7) rfl ?_); refine box_event ?hg (N := 7) ?hd (cs := #[.int .i64 0, .int .i64 0, .int .i64 0, .int .i64 0]) (t := 101) ?hr ?_; (case hd => rfl); (case hg => rfl); (case hr => first | (go_simp; done) | (go_simp; rfl)); intro gB7 hg_ w_gB7 BK_ hb_; have ORD_ : Aside0 ((((True) ∧ (w.heap.size ≤ gB3)) ∧ (gB3 < gB6 ∧ w.heap.size ≤ gB6)) ∧ (gB3 < gB7 ∧ gB6 < gB7 ∧ w.heap.size ≤ gB7)) := ⟨by refine ⟨ORD.out, ?_⟩; (have := HB.out.size); (have := blk_lt B3.out); (have := blk_lt B6.out); omega⟩; clear ORD; have ORD := ORD_; clear ORD_; have n0_ : Aside0 (Below w.heap.size w w_gB7) := ⟨Hx.bb_below hb_ (by first | exact HB.out | exact below_drew1 HB.out | exact pw_below_drewN HB.out _)⟩; have n1_ : Aside0 (w_gB7.heap[gB3]? = some (.cells #[.int .i64 x0, .int .i64 x1, .int .i64 x2, .int .i64 e] 101 (0, 0))) := ⟨Hx.b_below hb_ B3.out⟩; have n2_ : Aside0 (w_gB7.heap[gB6]? = some (.cells #[.int .i64 0, .int .i64 0, .int .i64 0, .int .i64 0] 101 (0, 0))) := ⟨Hx.b_below hb_ B6.out⟩; have m0_ : Aside0 (w_gB7.heap[gB7]? = some (.cells #[.int .i64 0, .int .i64 0, .int .i64 0, .int .i64 0] 101 (0, 0))) := ⟨BK_⟩; (try clear cB3_0 dB3_0 cB3_1 dB3_1 cB3_2 dB3_2 cB3_3 dB3_3 cB6_0 dB6_0 cB6_1 dB6_1 cB6_2 dB6_2 cB6_3 dB6_3); (try clear HB); (try clear B3); (try clear B6); have HB := n0_; have B3 := n1_; have B6 := n2_; have B7 := m0_; clear n0_ n1_ n2_ m0_; have cB3_0 : w_gB7.cell? ⟨gB3, 0, none⟩ = some (.int .i64 x0) := (blk_cell B3.out 0).trans rfl; have dB3_0 := blk_frozen B3.out 0; have cB3_1 : w_gB7.cell? ⟨gB3, 1, none⟩ = some (.int .i64 x1) := (blk_cell B3.out 1).trans rfl; have dB3_1 := blk_frozen B3.out 1; have cB3_2 : w_gB7.cell? ⟨gB3, 2, none⟩ = some (.int .i64 x2) := (blk_cell B3.out 2).trans rfl; have dB3_2 := blk_frozen B3.out 2; have cB3_3 : w_gB7.cell? ⟨gB3, 3, none⟩ = some (.int .i64 e) := (blk_cell B3.out 3).trans rfl; have dB3_3 := blk_frozen B3.out 3; have cB6_0 : w_gB7.cell? ⟨gB6, 0, none⟩ = some (.int .i64 0) := (blk_cell B6.out 0).trans rfl; have dB6_0 := blk_frozen B6.out 0; have cB6_1 : w_gB7.cell? ⟨gB6, 1, none⟩ = some (.int .i64 0) := (blk_cell B6.out 1).trans rfl; have dB6_1 := blk_frozen B6.out 1; have cB6_2 : w_gB7.cell? ⟨gB6, 2, none⟩ = some (.int .i64 0) := (blk_cell B6.out 2).trans rfl; have dB6_2 := blk_frozen B6.out 2; have cB6_3 : w_gB7.cell? ⟨gB6, 3, none⟩ = some (.int .i64 0) := (blk_cell B6.out 3).trans rfl; have dB6_3 := blk_frozen B6.out 3; have cB7_0 : w_gB7.cell? ⟨gB7, 0, none⟩ = some (.int .i64 0) := (blk_cell B7.out 0).trans rfl; have dB7_0 := blk_frozen B7.out 0; have cB7_1 : w_gB7.cell? ⟨gB7, 1, none⟩ = some (.int .i64 0) := (blk_cell B7.out 1).trans rfl; have dB7_1 := blk_frozen B7.out 1; have cB7_2 : w_gB7.cell? ⟨gB7, 2, none⟩ = some (.int .i64 0) := (blk_cell B7.out 2).trans rfl; have dB7_2 := blk_frozen B7.out 2; have cB7_3 : w_gB7.cell? ⟨gB7, 3, none⟩ = some (.int .i64 0) := (blk_cell B7.out 3).trans rfl; have dB7_3 := blk_frozen B7.out 3; clear hg_ BK_ hb_))
  go_region_held3 (fun w' => w'.cell? ⟨gB3, 0, none⟩ = some (.int .i64 x0) ∧ w'.cell? ⟨gB3, 1, none⟩ = some (.int .i64 x1) ∧ w'.cell? ⟨gB3, 2, none⟩ = some (.int .i64 x2) ∧ w'.cell? ⟨gB3, 3, none⟩ = some (.int .i64 e)) (first | exact ⟨(blk_cell (B3.out) 0).trans rfl, (blk_cell (B3.out) 1).trans rfl, (blk_cell (B3.out) 2).trans rfl, (blk_cell (B3.out) 3).trans rfl⟩ | exact ⟨(blk_cell (blk_alloc B3.out _) 0).trans rfl, (blk_cell (blk_alloc B3.out _) 1).trans rfl, (blk_cell (blk_alloc B3.out _) 2).trans rfl, (blk_cell (blk_alloc B3.out _) 3).trans rfl⟩ | exact ⟨(blk_cell (blk_alloc (blk_alloc B3.out _) _) 0).trans rfl, (blk_cell (blk_alloc (blk_alloc B3.out _) _) 1).trans rfl, (blk_cell (blk_alloc (blk_alloc B3.out _) _) 2).trans rfl, (blk_cell (blk_alloc (blk_alloc B3.out _) _) 3).trans rfl⟩ | exact ⟨(blk_cell (blk_far (blk_alloc B3.out _) (show gB3 ≠ w_gB7.heap.size by have := blk_lt B3.out; omega) _) 0).trans rfl, (blk_cell (blk_far (blk_alloc B3.out _) (show gB3 ≠ w_gB7.heap.size by have := blk_lt B3.out; omega) _) 1).trans rfl, (blk_cell (blk_far (blk_alloc B3.out _) (show gB3 ≠ w_gB7.heap.size by have := blk_lt B3.out; omega) _) 2).trans rfl, (blk_cell (blk_far (blk_alloc B3.out _) (show gB3 ≠ w_gB7.heap.size by have := blk_lt B3.out; omega) _) 3).trans rfl⟩) (fail)
  all_goals
    have F2 := Hz.two_alloc w_gB7 (.cells #[.int .i64 x0, .int .i64 x1, .int .i64 x2, .int .i64 e] 101) (.cells #[.int .i64 x0, .int .i64 x1, .int .i64 x2, .int .i64 e] 101)
    have ln := blk_lt B3.out
    have ln6 := blk_lt B6.out
    have ln7 := blk_lt B7.out
    have G3 := blk_alloc (blk_alloc B3.out (.cells #[.int .i64 x0, .int .i64 x1, .int .i64 x2, .int .i64 e] 101)) (.cells #[.int .i64 x0, .int .i64 x1, .int .i64 x2, .int .i64 e] 101)
    have G6 := blk_alloc (blk_alloc B6.out (.cells #[.int .i64 x0, .int .i64 x1, .int .i64 x2, .int .i64 e] 101)) (.cells #[.int .i64 x0, .int .i64 x1, .int .i64 x2, .int .i64 e] 101)
    have G7 := blk_alloc (blk_alloc B7.out (.cells #[.int .i64 x0, .int .i64 x1, .int .i64 x2, .int .i64 e] 101)) (.cells #[.int .i64 x0, .int .i64 x1, .int .i64 x2, .int .i64 e] 101)
    have GB := below_drew1 (below_alloc (below_alloc HB.out (.cells #[.int .i64 x0, .int .i64 x1, .int .i64 x2, .int .i64 e] 101)) (.cells #[.int .i64 x0, .int .i64 x1, .int .i64 x2, .int .i64 e] 101))
    replace G3 := blk_drew G3
    replace G6 := blk_drew G6
    replace G7 := blk_drew G7
    clear B3 B6 B7 HB cB3_0 dB3_0 cB3_1 dB3_1 cB3_2 dB3_2 cB3_3 dB3_3 cB6_0 dB6_0 cB6_1 dB6_1 cB6_2 dB6_2 cB6_3 dB6_3 cB7_0 dB7_0 cB7_1 dB7_1 cB7_2 dB7_2 cB7_3 dB7_3
    generalize ((w_gB7.alloc (.cells #[.int .i64 x0, .int .i64 x1, .int .i64 x2, .int .i64 e] 101)).alloc (.cells #[.int .i64 x0, .int .i64 x1, .int .i64 x2, .int .i64 e] 101)).drew = wA at F2 G3 G6 G7 GB ⊢
    obtain ⟨G8, G9⟩ := F2
  focus
    obtain ⟨g9, e9⟩ : ∃ g_, g_ = w_gB7.heap.size + 1 := ⟨_, rfl⟩
    obtain ⟨g8, e8⟩ : ∃ g_, g_ = w_gB7.heap.size := ⟨_, rfl⟩
    rw [← e9] at G9 ⊢
    rw [← e8] at G8 ⊢
    have B8 := Aside0.mk G8
    have B9 := Aside0.mk G9
    have B3 := Aside0.mk G3
    have B6 := Aside0.mk G6
    have B7 := Aside0.mk G7
    have HB := Aside0.mk GB
    have ORD2 : Aside0 (w.heap.size ≤ gB3 ∧ gB3 < gB6 ∧ gB6 < gB7 ∧ gB7 < g8 ∧ gB7 < g9 ∧ g8 ≠ g9) := ⟨by have := ORD.out; omega⟩
    clear G3 G6 G7 G8 G9 GB ln ln6 ln7 ORD e8 e9
    have ORD := ORD2
    clear ORD2
  rotate_left
  focus
    obtain ⟨g8, e8⟩ : ∃ g_, g_ = w_gB7.heap.size + 1 := ⟨_, rfl⟩
    obtain ⟨g9, e9⟩ : ∃ g_, g_ = w_gB7.heap.size := ⟨_, rfl⟩
    rw [← e8] at G9 ⊢
    rw [← e9] at G8 ⊢
    have B8 := Aside0.mk G9
    have B9 := Aside0.mk G8
    have B3 := Aside0.mk G3
    have B6 := Aside0.mk G6
    have B7 := Aside0.mk G7
    have HB := Aside0.mk GB
    have ORD2 : Aside0 (w.heap.size ≤ gB3 ∧ gB3 < gB6 ∧ gB6 < gB7 ∧ gB7 < g8 ∧ gB7 < g9 ∧ g8 ≠ g9) := ⟨by have := ORD.out; omega⟩
    clear G3 G6 G7 G8 G9 GB ln ln6 ln7 ORD e8 e9
    have ORD := ORD2
    clear ORD2
  all_goals
    have cB3_0 : wA.cell? ⟨gB3, 0, none⟩ = some (.int .i64 x0) := (blk_cell B3.out 0).trans rfl
    have dB3_0 := blk_frozen B3.out 0
    have cB3_1 : wA.cell? ⟨gB3, 1, none⟩ = some (.int .i64 x1) := (blk_cell B3.out 1).trans rfl
    have dB3_1 := blk_frozen B3.out 1
    have cB3_2 : wA.cell? ⟨gB3, 2, none⟩ = some (.int .i64 x2) := (blk_cell B3.out 2).trans rfl
    have dB3_2 := blk_frozen B3.out 2
    have cB3_3 : wA.cell? ⟨gB3, 3, none⟩ = some (.int .i64 e) := (blk_cell B3.out 3).trans rfl
    have dB3_3 := blk_frozen B3.out 3
    have cB6_0 : wA.cell? ⟨gB6, 0, none⟩ = some (.int .i64 0) := (blk_cell B6.out 0).trans rfl
    have dB6_0 := blk_frozen B6.out 0
    have cB6_1 : wA.cell? ⟨gB6, 1, none⟩ = some (.int .i64 0) := (blk_cell B6.out 1).trans rfl
    have dB6_1 := blk_frozen B6.out 1
    have cB6_2 : wA.cell? ⟨gB6, 2, none⟩ = some (.int .i64 0) := (blk_cell B6.out 2).trans rfl
    have dB6_2 := blk_frozen B6.out 2
    have cB6_3 : wA.cell? ⟨gB6, 3, none⟩ = some (.int .i64 0) := (blk_cell B6.out 3).trans rfl
    have dB6_3 := blk_frozen B6.out 3
    have cB7_0 : wA.cell? ⟨gB7, 0, none⟩ = some (.int .i64 0) := (blk_cell B7.out 0).trans rfl
    have dB7_0 := blk_frozen B7.out 0
    have cB7_1 : wA.cell? ⟨gB7, 1, none⟩ = some (.int .i64 0) := (blk_cell B7.out 1).trans rfl
    have dB7_1 := blk_frozen B7.out 1
    have cB7_2 : wA.cell? ⟨gB7, 2, none⟩ = some (.int .i64 0) := (blk_cell B7.out 2).trans rfl
    have dB7_2 := blk_frozen B7.out 2
    have cB7_3 : wA.cell? ⟨gB7, 3, none⟩ = some (.int .i64 0) := (blk_cell B7.out 3).trans rfl
    have dB7_3 := blk_frozen B7.out 3
    have cB8_0 : wA.cell? ⟨g8, 0, none⟩ = some (.int .i64 x0) := (blk_cell B8.out 0).trans rfl
    have dB8_0 := blk_frozen B8.out 0
    have cB8_1 : wA.cell? ⟨g8, 1, none⟩ = some (.int .i64 x1) := (blk_cell B8.out 1).trans rfl
    have dB8_1 := blk_frozen B8.out 1
    have cB8_2 : wA.cell? ⟨g8, 2, none⟩ = some (.int .i64 x2) := (blk_cell B8.out 2).trans rfl
    have dB8_2 := blk_frozen B8.out 2
    have cB8_3 : wA.cell? ⟨g8, 3, none⟩ = some (.int .i64 e) := (blk_cell B8.out 3).trans rfl
    have dB8_3 := blk_frozen B8.out 3
    have cB9_0 : wA.cell? ⟨g9, 0, none⟩ = some (.int .i64 x0) := (blk_cell B9.out 0).trans rfl
    have dB9_0 := blk_frozen B9.out 0
    have cB9_1 : wA.cell? ⟨g9, 1, none⟩ = some (.int .i64 x1) := (blk_cell B9.out 1).trans rfl
    have dB9_1 := blk_frozen B9.out 1
    have cB9_2 : wA.cell? ⟨g9, 2, none⟩ = some (.int .i64 x2) := (blk_cell B9.out 2).trans rfl
    have dB9_2 := blk_frozen B9.out 2
    have cB9_3 : wA.cell? ⟨g9, 3, none⟩ = some (.int .i64 e) := (blk_cell B9.out 3).trans rfl
    have dB9_3 := blk_frozen B9.out 3
    go_upto_region 2 with fail
    have ne0_1 : (gB3 = g8) = False := eq_false (by have := ORD.out; omega)
    have ne1_0 : (g8 = gB3) = False := eq_false (by have := ORD.out; omega)
    refine start_ (n := 11) (S := fun w' => w'.cell? ⟨gB3, 3, none⟩ = some (.int .i64 e)) (ds := [10]) #[false, false, false, false, false, false, false, false, false, false, false] (by kernel_rfl) rfl rfl ((blk_cell (B3.out) 3).trans rfl) (fun hHeld => ?_)
    refine pure_ (i := 0) (N := some 12) (v := ?_) (a' := ?_) #[true, false, false, false, false, false, false, false, false, false, false] rfl rfl (by kernel_rfl) (fun _ _ _ h => h) (Or.inl ⟨by rfl, ?_⟩) ?_ ?_
    rotate_left
    · intro w'
      go_simp
      with_reducible rfl
    rotate_left
    · simp only [Act.put, List.setIfInBounds_toArray, List.set_cons_zero, List.set_cons_succ, i64_w, i32_w]
      rfl
    refine pure_ (i := 1) (N := some 13) (v := ?_) (a' := ?_) #[true, true, false, false, false, false, false, false, false, false, false] rfl rfl (by kernel_rfl) (fun _ _ _ h => h) (Or.inl ⟨by rfl, ?_⟩) ?_ ?_
    rotate_left
    · intro w'
      go_simp
      with_reducible rfl
    rotate_left
    · simp only [Act.put, List.setIfInBounds_toArray, List.set_cons_zero, List.set_cons_succ, i64_w, i32_w]
      rfl
    refine pure_ (i := 2) (N := some 14) (v := ?_) (a' := ?_) #[true, true, true, false, false, false, false, false, false, false, false] rfl rfl (by kernel_rfl) (fun _ _ _ h => h) (Or.inl ⟨by rfl, ?_⟩) ?_ ?_
    rotate_left
    · intro w'
      go_simp
      with_reducible rfl
    rotate_left
    · simp only [Act.put, List.setIfInBounds_toArray, List.set_cons_zero, List.set_cons_succ, i64_w, i32_w]
      rfl
    refine pure_ (i := 3) (N := some 15) (v := ?_) (a' := ?_) #[true, true, true, true, false, false, false, false, false, false, false] rfl rfl (by kernel_rfl) (fun _ _ _ h => h) (Or.inl ⟨by rfl, ?_⟩) ?_ ?_
    rotate_left
    · intro w'
      go_simp
      with_reducible rfl
    rotate_left
    · simp only [Act.put, List.setIfInBounds_toArray, List.set_cons_zero, List.set_cons_succ, i64_w, i32_w]
      rfl
    refine pure_ (i := 6) (N := some 18) (v := ?_) (a' := ?_) #[true, true, true, true, false, false, true, false, false, false, false] rfl rfl (by kernel_rfl) (fun _ _ _ h => h) (Or.inl ⟨by rfl, ?_⟩) ?_ ?_
    rotate_left
    · intro w'
      go_simp
      with_reducible rfl
    rotate_left
    · simp only [Act.put, List.setIfInBounds_toArray, List.set_cons_zero, List.set_cons_succ, i64_w, i32_w]
      rfl
    refine pure_ (i := 7) (N := some 19) (v := ?_) (a' := ?_) #[true, true, true, true, false, false, true, true, false, false, false] rfl rfl (by kernel_rfl) (fun _ _ _ h => h) (Or.inl ⟨by rfl, ?_⟩) ?_ ?_
    rotate_left
    · intro w'
      go_simp
      with_reducible rfl
    rotate_left
    · simp only [Act.put, List.setIfInBounds_toArray, List.set_cons_zero, List.set_cons_succ, i64_w, i32_w]
      rfl
    refine take_ (i := 4) (N := some 16) (v := ?_) (a' := ?_) #[true, true, true, true, true, false, true, true, false, false, false] rfl rfl (by kernel_rfl) (fun _ _ _ h => h) (Or.inl ⟨by rfl, ?_⟩) hHeld ?_ ?_
    rotate_left
    · intro w' s0
      go_simp
      with_reducible rfl
    rotate_left
    · simp only [Act.put, List.setIfInBounds_toArray, List.set_cons_zero, List.set_cons_succ, i64_w, i32_w]
      rfl
    refine pure_ (i := 5) (N := some 17) (v := ?_) (a' := ?_) #[true, true, true, true, true, true, true, true, false, false, false] rfl rfl (by kernel_rfl) (fun _ _ _ h => h) (Or.inl ⟨by rfl, ?_⟩) ?_ ?_
    rotate_left
    · intro w'
      go_simp
      with_reducible rfl
    rotate_left
    · simp only [Act.put, List.setIfInBounds_toArray, List.set_cons_zero, List.set_cons_succ, i64_w, i32_w]
      rfl
    refine one_ (i := 8) (N := none) #[true, true, true, true, true, true, true, true, true, false, false] rfl rfl (by kernel_rfl) (by decide) (fun K hK => ?_)
    refine skip_ (w1 := ?_) (by rfl) rfl ?_ ?_
    rotate_left
    · go_simp
      rfl
    refine hK.out _ _ ((blk_cell (blk_drew (blk_far B3.out (show gB3 ≠ g8 by have := ORD.out; omega) _)) 3).trans rfl) (fun hHeld => ?_)
    clear hK K
    refine pure_ (i := 9) (N := some 20) (v := ?_) (a' := ?_) #[true, true, true, true, true, true, true, true, true, true, false] rfl rfl (by kernel_rfl) (fun _ _ _ h => h) (Or.inl ⟨by rfl, ?_⟩) ?_ ?_
    rotate_left
    · intro w'
      go_simp
      with_reducible rfl
    rotate_left
    · simp only [Act.put, List.setIfInBounds_toArray, List.set_cons_zero, List.set_cons_succ, i64_w, i32_w]
      rfl
    refine last_ (i := 10) (N := none) #[true, true, true, true, true, true, true, true, true, true, true] rfl rfl (by kernel_rfl) (by decide) (fun K hK => ?_)
    refine skip_ (w1 := ?_) (by rfl) rfl ?_ ?_
    rotate_left
    · go_simp
      rfl
    refine hK.out _ _ ?_
    clear hK K
    refine done_ (by kernel_rfl) ?_
    clear ne0_1 ne1_0
    all_goals
      obtain ⟨wB, hw_⟩ : ∃ W_, W_ = ((wA.setCell ⟨g8, 2, none⟩ (.int .i64 (f - 1))).setCell ⟨g8, 3, none⟩ (.int .i64 (e - 1))).drew := ⟨_, rfl⟩
      have e0_ : gB3 ≠ g8 := (by have := ORD.out; omega)
      have e1_ : gB6 ≠ g8 := (by have := ORD.out; omega)
      have e2_ : gB7 ≠ g8 := (by have := ORD.out; omega)
      have e3_ : g9 ≠ g8 := (by have := ORD.out; omega)
      have n0_ : Aside0 (Below w.heap.size w wB) := ⟨by rw [hw_]; exact below_drew1 (below_set (g := g8) (below_set (g := g8) HB.out (by have := ORD.out; omega)) (by have := ORD.out; omega))⟩
      have n1_ : Aside0 (wB.heap[gB3]? = some (.cells #[.int .i64 x0, .int .i64 x1, .int .i64 x2, .int .i64 e] 101 (0, 0))) := ⟨by rw [hw_]; exact blk_drew (blk_far (blk_far B3.out e0_ _) e0_ _)⟩
      have n2_ : Aside0 (wB.heap[gB6]? = some (.cells #[.int .i64 0, .int .i64 0, .int .i64 0, .int .i64 0] 101 (0, 0))) := ⟨by rw [hw_]; exact blk_drew (blk_far (blk_far B6.out e1_ _) e1_ _)⟩
      have n3_ : Aside0 (wB.heap[gB7]? = some (.cells #[.int .i64 0, .int .i64 0, .int .i64 0, .int .i64 0] 101 (0, 0))) := ⟨by rw [hw_]; exact blk_drew (blk_far (blk_far B7.out e2_ _) e2_ _)⟩
      have n4_ : Aside0 (wB.heap[g8]? = some (.cells #[.int .i64 x0, .int .i64 x1, .int .i64 (f - 1), .int .i64 (e - 1)] 101 (0, 0))) := ⟨by rw [hw_]; exact blk_drew (blk_put (blk_put B8.out 2 _ rfl) 3 _ rfl)⟩
      have n5_ : Aside0 (wB.heap[g9]? = some (.cells #[.int .i64 x0, .int .i64 x1, .int .i64 x2, .int .i64 e] 101 (0, 0))) := ⟨by rw [hw_]; exact blk_drew (blk_far (blk_far B9.out e3_ _) e3_ _)⟩
      (try clear cB3_0 dB3_0 cB3_1 dB3_1 cB3_2 dB3_2 cB3_3 dB3_3 cB6_0 dB6_0 cB6_1 dB6_1 cB6_2 dB6_2 cB6_3 dB6_3 cB7_0 dB7_0 cB7_1 dB7_1 cB7_2 dB7_2 cB7_3 dB7_3 cB8_0 dB8_0 cB8_1 dB8_1 cB8_2 dB8_2 cB8_3 dB8_3 cB9_0 dB9_0 cB9_1 dB9_1 cB9_2 dB9_2 cB9_3 dB9_3)
      (try clear HB)
      (try clear B3)
      (try clear B6)
      (try clear B7)
      (try clear B8)
      (try clear B9)
      rw [← hw_]
      clear hw_ e0_ e1_ e2_ e3_
      have HB := n0_
      have B3 := n1_
      have B6 := n2_
      have B7 := n3_
      have B8 := n4_
      have B9 := n5_
      clear n0_ n1_ n2_ n3_ n4_ n5_
      have cB3_0 : wB.cell? ⟨gB3, 0, none⟩ = some (.int .i64 x0) := (blk_cell B3.out 0).trans rfl
      have dB3_0 := blk_frozen B3.out 0
      have cB3_1 : wB.cell? ⟨gB3, 1, none⟩ = some (.int .i64 x1) := (blk_cell B3.out 1).trans rfl
      have dB3_1 := blk_frozen B3.out 1
      have cB3_2 : wB.cell? ⟨gB3, 2, none⟩ = some (.int .i64 x2) := (blk_cell B3.out 2).trans rfl
      have dB3_2 := blk_frozen B3.out 2
      have cB3_3 : wB.cell? ⟨gB3, 3, none⟩ = some (.int .i64 e) := (blk_cell B3.out 3).trans rfl
      have dB3_3 := blk_frozen B3.out 3
      have cB6_0 : wB.cell? ⟨gB6, 0, none⟩ = some (.int .i64 0) := (blk_cell B6.out 0).trans rfl
      have dB6_0 := blk_frozen B6.out 0
      have cB6_1 : wB.cell? ⟨gB6, 1, none⟩ = some (.int .i64 0) := (blk_cell B6.out 1).trans rfl
      have dB6_1 := blk_frozen B6.out 1
      have cB6_2 : wB.cell? ⟨gB6, 2, none⟩ = some (.int .i64 0) := (blk_cell B6.out 2).trans rfl
      have dB6_2 := blk_frozen B6.out 2
      have cB6_3 : wB.cell? ⟨gB6, 3, none⟩ = some (.int .i64 0) := (blk_cell B6.out 3).trans rfl
      have dB6_3 := blk_frozen B6.out 3
      have cB7_0 : wB.cell? ⟨gB7, 0, none⟩ = some (.int .i64 0) := (blk_cell B7.out 0).trans rfl
      have dB7_0 := blk_frozen B7.out 0
      have cB7_1 : wB.cell? ⟨gB7, 1, none⟩ = some (.int .i64 0) := (blk_cell B7.out 1).trans rfl
      have dB7_1 := blk_frozen B7.out 1
      have cB7_2 : wB.cell? ⟨gB7, 2, none⟩ = some (.int .i64 0) := (blk_cell B7.out 2).trans rfl
      have dB7_2 := blk_frozen B7.out 2
      have cB7_3 : wB.cell? ⟨gB7, 3, none⟩ = some (.int .i64 0) := (blk_cell B7.out 3).trans rfl
      have dB7_3 := blk_frozen B7.out 3
      have cB8_0 : wB.cell? ⟨g8, 0, none⟩ = some (.int .i64 x0) := (blk_cell B8.out 0).trans rfl
      have dB8_0 := blk_frozen B8.out 0
      have cB8_1 : wB.cell? ⟨g8, 1, none⟩ = some (.int .i64 x1) := (blk_cell B8.out 1).trans rfl
      have dB8_1 := blk_frozen B8.out 1
      have cB8_2 : wB.cell? ⟨g8, 2, none⟩ = some (.int .i64 (f - 1)) := (blk_cell B8.out 2).trans rfl
      have dB8_2 := blk_frozen B8.out 2
      have cB8_3 : wB.cell? ⟨g8, 3, none⟩ = some (.int .i64 (e - 1)) := (blk_cell B8.out 3).trans rfl
      have dB8_3 := blk_frozen B8.out 3
      have cB9_0 : wB.cell? ⟨g9, 0, none⟩ = some (.int .i64 x0) := (blk_cell B9.out 0).trans rfl
      have dB9_0 := blk_frozen B9.out 0
      have cB9_1 : wB.cell? ⟨g9, 1, none⟩ = some (.int .i64 x1) := (blk_cell B9.out 1).trans rfl
      have dB9_1 := blk_frozen B9.out 1
      have cB9_2 : wB.cell? ⟨g9, 2, none⟩ = some (.int .i64 x2) := (blk_cell B9.out 2).trans rfl
      have dB9_2 := blk_frozen B9.out 2
      have cB9_3 : wB.cell? ⟨g9, 3, none⟩ = some (.int .i64 e) := (blk_cell B9.out 3).trans rfl
      have dB9_3 := blk_frozen B9.out 3
      go_upto_region 4 with (first | ((with_reducible refine gate_store (t := 3) (p := 28) rfl ?_); refine store_event (t := 3) (p := 28) (v := ?vo_wC) (w1 := ((wB).setCell ⟨g9, 2, none⟩ (.int .i64 (x2 - f)))) ?hg ?ho ?hn ?hr ?_; (case ho => rfl); (case hg => rfl); (case hn => rfl); (case hr => first | (go_simp; done) | (go_simp; rfl)); intro wC hw_; have n0_ : Aside0 (Below w.heap.size w wC) := ⟨by rw [hw_]; exact below_set (g := g9) HB.out (by have := ORD.out; omega)⟩; have n1_ : Aside0 (wC.heap[gB3]? = some (.cells #[.int .i64 x0, .int .i64 x1, .int .i64 x2, .int .i64 e] 101 (0, 0))) := ⟨by rw [hw_]; exact blk_far B3.out (show gB3 ≠ g9 by have := ORD.out; omega) _⟩; have n2_ : Aside0 (wC.heap[gB6]? = some (.cells #[.int .i64 0, .int .i64 0, .int .i64 0, .int .i64 0] 101 (0, 0))) := ⟨by rw [hw_]; exact blk_far B6.out (show gB6 ≠ g9 by have := ORD.out; omega) _⟩; have n3_ : Aside0 (wC.heap[gB7]? = some (.cells #[.int .i64 0, .int .i64 0, .int .i64 0, .int .i64 0] 101 (0, 0))) := ⟨by rw [hw_]; exact blk_far B7.out (show gB7 ≠ g9 by have := ORD.out; omega) _⟩; have n4_ : Aside0 (wC.heap[g8]? = some (.cells #[.int .i64 x0, .int .i64 x1, .int .i64 (f - 1), .int .i64 (e - 1)] 101 (0, 0))) := ⟨by rw [hw_]; exact blk_far B8.out (show g8 ≠ g9 by have := ORD.out; omega) _⟩; have n5_ : Aside0 (wC.heap[g9]? = some (.cells #[.int .i64 x0, .int .i64 x1, .int .i64 (x2 - f), .int .i64 e] 101 (0, 0))) := ⟨by rw [hw_]; exact blk_put B9.out 2 _ rfl⟩; (try clear cB3_0 dB3_0 cB3_1 dB3_1 cB3_2 dB3_2 cB3_3 dB3_3 cB6_0 dB6_0 cB6_1 dB6_1 cB6_2 dB6_2 cB6_3 dB6_3 cB7_0 dB7_0 cB7_1 dB7_1 cB7_2 dB7_2 cB7_3 dB7_3 cB8_0 dB8_0 cB8_1 dB8_1 cB8_2 dB8_2 cB8_3 dB8_3 cB9_0 dB9_0 cB9_1 dB9_1 cB9_2 dB9_2 cB9_3 dB9_3); (try clear HB); (try clear B3); (try clear B6); (try clear B7); (try clear B8); (try clear B9); have HB := n0_; have B3 := n1_; have B6 := n2_; have B7 := n3_; have B8 := n4_; have B9 := n5_; clear n0_ n1_ n2_ n3_ n4_ n5_; have cB3_0 : wC.cell? ⟨gB3, 0, none⟩ = some (.int .i64 x0) := (blk_cell B3.out 0).trans rfl; have dB3_0 := blk_frozen B3.out 0; have cB3_1 : wC.cell? ⟨gB3, 1, none⟩ = some (.int .i64 x1) := (blk_cell B3.out 1).trans rfl; have dB3_1 := blk_frozen B3.out 1; have cB3_2 : wC.cell? ⟨gB3, 2, none⟩ = some (.int .i64 x2) := (blk_cell B3.out 2).trans rfl; have dB3_2 := blk_frozen B3.out 2; have cB3_3 : wC.cell? ⟨gB3, 3, none⟩ = some (.int .i64 e) := (blk_cell B3.out 3).trans rfl; have dB3_3 := blk_frozen B3.out 3; have cB6_0 : wC.cell? ⟨gB6, 0, none⟩ = some (.int .i64 0) := (blk_cell B6.out 0).trans rfl; have dB6_0 := blk_frozen B6.out 0; have cB6_1 : wC.cell? ⟨gB6, 1, none⟩ = some (.int .i64 0) := (blk_cell B6.out 1).trans rfl; have dB6_1 := blk_frozen B6.out 1; have cB6_2 : wC.cell? ⟨gB6, 2, none⟩ = some (.int .i64 0) := (blk_cell B6.out 2).trans rfl; have dB6_2 := blk_frozen B6.out 2; have cB6_3 : wC.cell? ⟨gB6, 3, none⟩ = some (.int .i64 0) := (blk_cell B6.out 3).trans rfl; have dB6_3 := blk_frozen B6.out 3; have cB7_0 : wC.cell? ⟨gB7, 0, none⟩ = some (.int .i64 0) := (blk_cell B7.out 0).trans rfl; have dB7_0 := blk_frozen B7.out 0; have cB7_1 : wC.cell? ⟨gB7, 1, none⟩ = some (.int .i64 0) := (blk_cell B7.out 1).trans rfl; have dB7_1 := blk_frozen B7.out 1; have cB7_2 : wC.cell? ⟨gB7, 2, none⟩ = some (.int .i64 0) := (blk_cell B7.out 2).trans rfl; have dB7_2 := blk_frozen B7.out 2; have cB7_3 : wC.cell? ⟨gB7, 3, none⟩ = some (.int .i64 0) := (blk_cell B7.out 3).trans rfl; have dB7_3 := blk_frozen B7.out 3; have cB8_0 : wC.cell? ⟨g8, 0, none⟩ = some (.int .i64 x0) := (blk_cell B8.out 0).trans rfl; have dB8_0 := blk_frozen B8.out 0; have cB8_1 : wC.cell? ⟨g8, 1, none⟩ = some (.int .i64 x1) := (blk_cell B8.out 1).trans rfl; have dB8_1 := blk_frozen B8.out 1; have cB8_2 : wC.cell? ⟨g8, 2, none⟩ = some (.int .i64 (f - 1)) := (blk_cell B8.out 2).trans rfl; have dB8_2 := blk_frozen B8.out 2; have cB8_3 : wC.cell? ⟨g8, 3, none⟩ = some (.int .i64 (e - 1)) := (blk_cell B8.out 3).trans rfl; have dB8_3 := blk_frozen B8.out 3; have cB9_0 : wC.cell? ⟨g9, 0, none⟩ = some (.int .i64 x0) := (blk_cell B9.out 0).trans rfl; have dB9_0 := blk_frozen B9.out 0; have cB9_1 : wC.cell? ⟨g9, 1, none⟩ = some (.int .i64 x1) := (blk_cell B9.out 1).trans rfl; have dB9_1 := blk_frozen B9.out 1; have cB9_2 : wC.cell? ⟨g9, 2, none⟩ = some (.int .i64 (x2 - f)) := (blk_cell B9.out 2).trans rfl; have dB9_2 := blk_frozen B9.out 2; have cB9_3 : wC.cell? ⟨g9, 3, none⟩ = some (.int .i64 e) := (blk_cell B9.out 3).trans rfl; have dB9_3 := blk_frozen B9.out 3; clear hw_ ))
      have ne0_1 : (gB6 = gB7) = False := eq_false (by have := ORD.out; omega)
      have ne0_2 : (gB6 = g8) = False := eq_false (by have := ORD.out; omega)
      have ne0_3 : (gB6 = g9) = False := eq_false (by have := ORD.out; omega)
      have ne1_0 : (gB7 = gB6) = False := eq_false (by have := ORD.out; omega)
      have ne1_2 : (gB7 = g8) = False := eq_false (by have := ORD.out; omega)
      have ne1_3 : (gB7 = g9) = False := eq_false (by have := ORD.out; omega)
      have ne2_0 : (g8 = gB6) = False := eq_false (by have := ORD.out; omega)
      have ne2_1 : (g8 = gB7) = False := eq_false (by have := ORD.out; omega)
      have ne2_3 : (g8 = g9) = False := eq_false (by have := ORD.out; omega)
      have ne3_0 : (g9 = gB6) = False := eq_false (by have := ORD.out; omega)
      have ne3_1 : (g9 = gB7) = False := eq_false (by have := ORD.out; omega)
      have ne3_2 : (g9 = g8) = False := eq_false (by have := ORD.out; omega)
      refine start_ (n := 4) (S := fun w' => w'.cell? ⟨g8, 0, none⟩ = some (.int .i64 x0) ∧ w'.cell? ⟨g8, 1, none⟩ = some (.int .i64 x1) ∧ w'.cell? ⟨g8, 2, none⟩ = some (.int .i64 (f - 1)) ∧ w'.cell? ⟨g8, 3, none⟩ = some (.int .i64 (e - 1)) ∧ w'.cell? ⟨g9, 0, none⟩ = some (.int .i64 x0) ∧ w'.cell? ⟨g9, 1, none⟩ = some (.int .i64 x1) ∧ w'.cell? ⟨g9, 2, none⟩ = some (.int .i64 (x2 - f)) ∧ w'.cell? ⟨g9, 3, none⟩ = some (.int .i64 e)) (ds := [3]) #[false, false, false, false] (by kernel_rfl) rfl rfl ⟨(blk_cell (B8.out) 0).trans rfl, (blk_cell (B8.out) 1).trans rfl, (blk_cell (B8.out) 2).trans rfl, (blk_cell (B8.out) 3).trans rfl, (blk_cell (B9.out) 0).trans rfl, (blk_cell (B9.out) 1).trans rfl, (blk_cell (B9.out) 2).trans rfl, (blk_cell (B9.out) 3).trans rfl⟩ (fun hHeld => ?_)
      refine take_ (i := 0) (N := some 29) (v := ?_) (a' := ?_) #[true, false, false, false] rfl rfl (by kernel_rfl) (fun _ _ _ h => h) (Or.inl ⟨by rfl, ?_⟩) hHeld ?_ ?_
      rotate_left
      · rintro w' ⟨s0, s1, s2, s3, s4, s5, s6, s7⟩
        go_simp
        with_reducible rfl
      rotate_left
      · simp only [Act.put, List.setIfInBounds_toArray, List.set_cons_zero, List.set_cons_succ, i64_w, i32_w]
        rfl
      refine take_ (i := 1) (N := some 30) (v := ?_) (a' := ?_) #[true, true, false, false] rfl rfl (by kernel_rfl) (fun _ _ _ h => h) (Or.inl ⟨by rfl, ?_⟩) hHeld ?_ ?_
      rotate_left
      · rintro w' ⟨s0, s1, s2, s3, s4, s5, s6, s7⟩
        go_simp
        with_reducible rfl
      rotate_left
      · simp only [Act.put, List.setIfInBounds_toArray, List.set_cons_zero, List.set_cons_succ, i64_w, i32_w]
        rfl
      refine one_ (i := 2) (N := none) #[true, true, true, false] rfl rfl (by kernel_rfl) (by decide) (fun K hK => ?_)
      refine skip_ (w1 := ?_) (by rfl) rfl ?_ ?_
      rotate_left
      · go_simp
        rfl
      refine hK.out _ _ ⟨(blk_cell (blk_drew (blk_far (blk_far (blk_far (blk_far (B8.out) (show g8 ≠ gB6 by have := ORD.out; omega) _) (show g8 ≠ gB6 by have := ORD.out; omega) _) (show g8 ≠ gB6 by have := ORD.out; omega) _) (show g8 ≠ gB6 by have := ORD.out; omega) _)) 0).trans rfl, (blk_cell (blk_drew (blk_far (blk_far (blk_far (blk_far (B8.out) (show g8 ≠ gB6 by have := ORD.out; omega) _) (show g8 ≠ gB6 by have := ORD.out; omega) _) (show g8 ≠ gB6 by have := ORD.out; omega) _) (show g8 ≠ gB6 by have := ORD.out; omega) _)) 1).trans rfl, (blk_cell (blk_drew (blk_far (blk_far (blk_far (blk_far (B8.out) (show g8 ≠ gB6 by have := ORD.out; omega) _) (show g8 ≠ gB6 by have := ORD.out; omega) _) (show g8 ≠ gB6 by have := ORD.out; omega) _) (show g8 ≠ gB6 by have := ORD.out; omega) _)) 2).trans rfl, (blk_cell (blk_drew (blk_far (blk_far (blk_far (blk_far (B8.out) (show g8 ≠ gB6 by have := ORD.out; omega) _) (show g8 ≠ gB6 by have := ORD.out; omega) _) (show g8 ≠ gB6 by have := ORD.out; omega) _) (show g8 ≠ gB6 by have := ORD.out; omega) _)) 3).trans rfl, (blk_cell (blk_drew (blk_far (blk_far (blk_far (blk_far (B9.out) (show g9 ≠ gB6 by have := ORD.out; omega) _) (show g9 ≠ gB6 by have := ORD.out; omega) _) (show g9 ≠ gB6 by have := ORD.out; omega) _) (show g9 ≠ gB6 by have := ORD.out; omega) _)) 0).trans rfl, (blk_cell (blk_drew (blk_far (blk_far (blk_far (blk_far (B9.out) (show g9 ≠ gB6 by have := ORD.out; omega) _) (show g9 ≠ gB6 by have := ORD.out; omega) _) (show g9 ≠ gB6 by have := ORD.out; omega) _) (show g9 ≠ gB6 by have := ORD.out; omega) _)) 1).trans rfl, (blk_cell (blk_drew (blk_far (blk_far (blk_far (blk_far (B9.out) (show g9 ≠ gB6 by have := ORD.out; omega) _) (show g9 ≠ gB6 by have := ORD.out; omega) _) (show g9 ≠ gB6 by have := ORD.out; omega) _) (show g9 ≠ gB6 by have := ORD.out; omega) _)) 2).trans rfl, (blk_cell (blk_drew (blk_far (blk_far (blk_far (blk_far (B9.out) (show g9 ≠ gB6 by have := ORD.out; omega) _) (show g9 ≠ gB6 by have := ORD.out; omega) _) (show g9 ≠ gB6 by have := ORD.out; omega) _) (show g9 ≠ gB6 by have := ORD.out; omega) _)) 3).trans rfl⟩ (fun hHeld => ?_)
      clear hK K
      refine last_ (i := 3) (N := none) #[true, true, true, true] rfl rfl (by kernel_rfl) (by decide) (fun K hK => ?_)
      refine skip_ (w1 := ?_) (by rfl) rfl ?_ ?_
      rotate_left
      · go_simp
        rfl
      refine hK.out _ _ ?_
      clear hK K
      refine done_ (by kernel_rfl) ?_
      clear ne0_1 ne0_2 ne0_3 ne1_0 ne1_2 ne1_3 ne2_0 ne2_1 ne2_3 ne3_0 ne3_1 ne3_2
      all_goals
        obtain ⟨wD, hw_⟩ : ∃ W_, W_ = (((((((((wC).setCell ⟨gB6, 0, none⟩ (.int .i64 x0)).setCell ⟨gB6, 1, none⟩ (.int .i64 x1)).setCell ⟨gB6, 2, none⟩ (.int .i64 (f - 1))).setCell ⟨gB6, 3, none⟩ (.int .i64 (e - 1))).setCell ⟨gB7, 0, none⟩ (.int .i64 x0)).setCell ⟨gB7, 1, none⟩ (.int .i64 x1)).setCell ⟨gB7, 2, none⟩ (.int .i64 (x2 - f))).setCell ⟨gB7, 3, none⟩ (.int .i64 e)).drew := ⟨_, rfl⟩
        have e0_ : gB3 ≠ gB6 := (by have := ORD.out; omega)
        have e1_ : gB3 ≠ gB7 := (by have := ORD.out; omega)
        have e2_ : gB6 ≠ gB7 := (by have := ORD.out; omega)
        have e3_ : gB7 ≠ gB6 := (by have := ORD.out; omega)
        have e4_ : g8 ≠ gB6 := (by have := ORD.out; omega)
        have e5_ : g8 ≠ gB7 := (by have := ORD.out; omega)
        have e6_ : g9 ≠ gB6 := (by have := ORD.out; omega)
        have e7_ : g9 ≠ gB7 := (by have := ORD.out; omega)
        have n0_ : Aside0 (Below w.heap.size w wD) := ⟨by rw [hw_]; exact below_drew1 (below_set (g := gB7) (below_set (g := gB7) (below_set (g := gB7) (below_set (g := gB7) (below_set (g := gB6) (below_set (g := gB6) (below_set (g := gB6) (below_set (g := gB6) HB.out (by have := ORD.out; omega)) (by have := ORD.out; omega)) (by have := ORD.out; omega)) (by have := ORD.out; omega)) (by have := ORD.out; omega)) (by have := ORD.out; omega)) (by have := ORD.out; omega)) (by have := ORD.out; omega))⟩
        have n1_ : Aside0 (wD.heap[gB3]? = some (.cells #[.int .i64 x0, .int .i64 x1, .int .i64 x2, .int .i64 e] 101 (0, 0))) := ⟨by rw [hw_]; exact blk_drew (blk_far (blk_far (blk_far (blk_far (blk_far (blk_far (blk_far (blk_far B3.out e0_ _) e0_ _) e0_ _) e0_ _) e1_ _) e1_ _) e1_ _) e1_ _)⟩
        have n2_ : Aside0 (wD.heap[gB6]? = some (.cells #[.int .i64 x0, .int .i64 x1, .int .i64 (f - 1), .int .i64 (e - 1)] 101 (0, 0))) := ⟨by rw [hw_]; exact blk_drew (blk_far (blk_far (blk_far (blk_far (blk_put (blk_put (blk_put (blk_put B6.out 0 _ rfl) 1 _ rfl) 2 _ rfl) 3 _ rfl) e2_ _) e2_ _) e2_ _) e2_ _)⟩
        have n3_ : Aside0 (wD.heap[gB7]? = some (.cells #[.int .i64 x0, .int .i64 x1, .int .i64 (x2 - f), .int .i64 e] 101 (0, 0))) := ⟨by rw [hw_]; exact blk_drew (blk_put (blk_put (blk_put (blk_put (blk_far (blk_far (blk_far (blk_far B7.out e3_ _) e3_ _) e3_ _) e3_ _) 0 _ rfl) 1 _ rfl) 2 _ rfl) 3 _ rfl)⟩
        have n4_ : Aside0 (wD.heap[g8]? = some (.cells #[.int .i64 x0, .int .i64 x1, .int .i64 (f - 1), .int .i64 (e - 1)] 101 (0, 0))) := ⟨by rw [hw_]; exact blk_drew (blk_far (blk_far (blk_far (blk_far (blk_far (blk_far (blk_far (blk_far B8.out e4_ _) e4_ _) e4_ _) e4_ _) e5_ _) e5_ _) e5_ _) e5_ _)⟩
        have n5_ : Aside0 (wD.heap[g9]? = some (.cells #[.int .i64 x0, .int .i64 x1, .int .i64 (x2 - f), .int .i64 e] 101 (0, 0))) := ⟨by rw [hw_]; exact blk_drew (blk_far (blk_far (blk_far (blk_far (blk_far (blk_far (blk_far (blk_far B9.out e6_ _) e6_ _) e6_ _) e6_ _) e7_ _) e7_ _) e7_ _) e7_ _)⟩
        (try clear cB3_0 dB3_0 cB3_1 dB3_1 cB3_2 dB3_2 cB3_3 dB3_3 cB6_0 dB6_0 cB6_1 dB6_1 cB6_2 dB6_2 cB6_3 dB6_3 cB7_0 dB7_0 cB7_1 dB7_1 cB7_2 dB7_2 cB7_3 dB7_3 cB8_0 dB8_0 cB8_1 dB8_1 cB8_2 dB8_2 cB8_3 dB8_3 cB9_0 dB9_0 cB9_1 dB9_1 cB9_2 dB9_2 cB9_3 dB9_3)
        (try clear HB)
        (try clear B3)
        (try clear B6)
        (try clear B7)
        (try clear B8)
        (try clear B9)
        rw [← hw_]
        clear hw_ e0_ e1_ e2_ e3_ e4_ e5_ e6_ e7_
        have HB := n0_
        have B3 := n1_
        have B6 := n2_
        have B7 := n3_
        have B8 := n4_
        have B9 := n5_
        clear n0_ n1_ n2_ n3_ n4_ n5_
        have cB3_0 : wD.cell? ⟨gB3, 0, none⟩ = some (.int .i64 x0) := (blk_cell B3.out 0).trans rfl
        have dB3_0 := blk_frozen B3.out 0
        have cB3_1 : wD.cell? ⟨gB3, 1, none⟩ = some (.int .i64 x1) := (blk_cell B3.out 1).trans rfl
        have dB3_1 := blk_frozen B3.out 1
        have cB3_2 : wD.cell? ⟨gB3, 2, none⟩ = some (.int .i64 x2) := (blk_cell B3.out 2).trans rfl
        have dB3_2 := blk_frozen B3.out 2
        have cB3_3 : wD.cell? ⟨gB3, 3, none⟩ = some (.int .i64 e) := (blk_cell B3.out 3).trans rfl
        have dB3_3 := blk_frozen B3.out 3
        have cB6_0 : wD.cell? ⟨gB6, 0, none⟩ = some (.int .i64 x0) := (blk_cell B6.out 0).trans rfl
        have dB6_0 := blk_frozen B6.out 0
        have cB6_1 : wD.cell? ⟨gB6, 1, none⟩ = some (.int .i64 x1) := (blk_cell B6.out 1).trans rfl
        have dB6_1 := blk_frozen B6.out 1
        have cB6_2 : wD.cell? ⟨gB6, 2, none⟩ = some (.int .i64 (f - 1)) := (blk_cell B6.out 2).trans rfl
        have dB6_2 := blk_frozen B6.out 2
        have cB6_3 : wD.cell? ⟨gB6, 3, none⟩ = some (.int .i64 (e - 1)) := (blk_cell B6.out 3).trans rfl
        have dB6_3 := blk_frozen B6.out 3
        have cB7_0 : wD.cell? ⟨gB7, 0, none⟩ = some (.int .i64 x0) := (blk_cell B7.out 0).trans rfl
        have dB7_0 := blk_frozen B7.out 0
        have cB7_1 : wD.cell? ⟨gB7, 1, none⟩ = some (.int .i64 x1) := (blk_cell B7.out 1).trans rfl
        have dB7_1 := blk_frozen B7.out 1
        have cB7_2 : wD.cell? ⟨gB7, 2, none⟩ = some (.int .i64 (x2 - f)) := (blk_cell B7.out 2).trans rfl
        have dB7_2 := blk_frozen B7.out 2
        have cB7_3 : wD.cell? ⟨gB7, 3, none⟩ = some (.int .i64 e) := (blk_cell B7.out 3).trans rfl
        have dB7_3 := blk_frozen B7.out 3
        have cB8_0 : wD.cell? ⟨g8, 0, none⟩ = some (.int .i64 x0) := (blk_cell B8.out 0).trans rfl
        have dB8_0 := blk_frozen B8.out 0
        have cB8_1 : wD.cell? ⟨g8, 1, none⟩ = some (.int .i64 x1) := (blk_cell B8.out 1).trans rfl
        have dB8_1 := blk_frozen B8.out 1
        have cB8_2 : wD.cell? ⟨g8, 2, none⟩ = some (.int .i64 (f - 1)) := (blk_cell B8.out 2).trans rfl
        have dB8_2 := blk_frozen B8.out 2
        have cB8_3 : wD.cell? ⟨g8, 3, none⟩ = some (.int .i64 (e - 1)) := (blk_cell B8.out 3).trans rfl
        have dB8_3 := blk_frozen B8.out 3
        have cB9_0 : wD.cell? ⟨g9, 0, none⟩ = some (.int .i64 x0) := (blk_cell B9.out 0).trans rfl
        have dB9_0 := blk_frozen B9.out 0
        have cB9_1 : wD.cell? ⟨g9, 1, none⟩ = some (.int .i64 x1) := (blk_cell B9.out 1).trans rfl
        have dB9_1 := blk_frozen B9.out 1
        have cB9_2 : wD.cell? ⟨g9, 2, none⟩ = some (.int .i64 (x2 - f)) := (blk_cell B9.out 2).trans rfl
        have dB9_2 := blk_frozen B9.out 2
        have cB9_3 : wD.cell? ⟨g9, 3, none⟩ = some (.int .i64 e) := (blk_cell B9.out 3).trans rfl
        have dB9_3 := blk_frozen B9.out 3
        go_wp2
        exact bodyPost_ret (v := .tuple #[.agg #[.int .i64 x0, .int .i64 x1, .int .i64 (f - 1), .int .i64 (e - 1)], .agg #[.int .i64 x0, .int .i64 x1, .int .i64 (x2 - f), .int .i64 e]]) (by simp [results, Try.results127, go_sem, cB6_0, cB6_1, cB6_2, cB6_3, cB7_0, cB7_1, cB7_2, cB7_3]) rfl ⟨rfl, HB.out⟩


end Go.Proofs.Ytoomacelbhojhaa.U
