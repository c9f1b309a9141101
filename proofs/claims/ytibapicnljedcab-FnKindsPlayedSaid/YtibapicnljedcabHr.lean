/- Words of this session for the rows of laws over structs and slices of structs: arguments opened to plain lists. -/
import Derived.Deep.Slices
import Derived.Deep.Strs
import Derived.Lib.SmallJoins
import Derived.ProofKit
import Derived.Test.YtibapicnljedcabWWords
namespace Go.Proofs.Ytibapicnljedcab.Hr
open Go.RowKit Go.Deep Go.ChangeShapes Go.WideShapes Go.Proofs.YtibapicnljedcabW.PrintWords

theorem readsRow_of {α : Type} {R : α → List Value → Prop} {size : Nat} {w : World} {ad : Addr} {n : Nat} (hn : n ≤ 9223372036854775807)
    (z : α) (good : α → Prop) (h : ∀ i, i < n → ∃ p c, c.length = size ∧ R p c ∧ good p ∧ ∀ j u, c[j]? = some u → w.cell? (ad.add (i * size + j)) = some u) : ∃ ps, ReadsRow R size w (some ad) n ps ∧ ∀ p ∈ ps, good p := by
  have h2 : ∃ F : Nat → α, ∀ i, i < n → ∃ c, c.length = size ∧ R (F i) c ∧ good (F i) ∧ ∀ j u, c[j]? = some u → w.cell? (ad.add (i * size + j)) = some u := by
    refine ⟨fun i => if hi : i < n then Classical.choose (h i hi) else z, fun i hi => ?_⟩
    simp only [hi, dif_pos]
    exact Classical.choose_spec (h i hi)
  obtain ⟨F, hF⟩ := h2
  refine ⟨(List.range n).map F, ⟨by simp, hn, fun _ => ⟨ad, rfl, fun j p hj => ?_⟩⟩, ?_⟩
  · have hj' : j < n := by
      have := (List.getElem?_eq_some_iff.1 hj).1
      simpa using this
    have hp : F j = p := by simpa [hj'] using hj
    obtain ⟨c, h1, h2, _, h3⟩ := hF j hj'
    exact ⟨c, h1, hp ▸ h2, h3⟩
  · intro p hp
    obtain ⟨i, hi, rfl⟩ := List.mem_map.1 hp
    obtain ⟨c, _, _, h3, _⟩ := hF i (List.mem_range.1 hi)
    exact h3
section
variable {H : Type} {enc : TypeId × Value → H} {P : Program} {w : World} {base : Nat} {spare : Nat → Bool} {held : Bool}
/-- A slice whose elements are structs of one-cell fields, nil let in: a list that reads so. -/
theorem open_rows {α : Type} {t e : TypeId} {sz fuel : Nat} {v : Value} {x : DataW H × List MemPlace} (z : α) (R : α → List Value → Prop) (good : α → Prop) (ht : P.underlying t = some (.slice e)) (hs : P.cellsOf e = sz)
    (he : ∀ n cs y, DataW.trod enc P w base spare held n e cs = some y → ∃ p, cs.length = sz ∧ R p cs ∧ good p) (h : DataW.trod enc P w base spare held fuel t [v] = some x) :
    ∃ (A : Option Addr) (cap : Nat) (l : List α), v = .slice A l.length cap ∧ l.length ≤ cap ∧ cap ≤ maxLen ∧ ReadsRow R sz w A l.length l ∧ ∀ p ∈ l, good p := by
  rcases open_slice ht h with ⟨h0, _⟩ | ⟨a, len, cap, m, n, D, Pl, hcs, hb, hl, hm, hmm, hx, hi⟩
  · obtain rfl : v = .slice none 0 0 := by simpa using h0
    exact ⟨none, 0, [], rfl, by simp, by simp [maxLen], ⟨rfl, by simp, fun h => absurd h (by simp)⟩, by simp⟩
  · obtain rfl : v = .slice (some a) len cap := by simpa using hcs
    have hlm : len ≤ m := by rw [hmm]; split <;> omega
    have hmax : len ≤ 9223372036854775807 := by simp only [maxLen] at hm; omega
    obtain ⟨l, hR, hg⟩ := readsRow_of (R := R) (size := sz) (w := w) (ad := a) (n := len) hmax z good (fun i hilt => by
      obtain ⟨cs', hc, ht'⟩ := hi i (by omega)
      obtain ⟨p, hlen, hr, hgd⟩ := he n cs' _ ht'
      rw [hs] at hc
      obtain ⟨_, _, hat⟩ := World.cells?_some hc
      refine ⟨p, cs', hlen, hr, hgd, fun j u hu => ?_⟩
      have hj : j < sz := by have := (List.getElem?_eq_some_iff.1 hu).1; omega
      have h4 := hat j hj
      rw [Go.Deep.add_add] at h4
      rw [h4, hu])
    have hll : l.length = len := hR.1
    subst hll
    exact ⟨some a, cap, l, rfl, hl, hm, hR, hg⟩
end
end Go.Proofs.Ytibapicnljedcab.Hr
