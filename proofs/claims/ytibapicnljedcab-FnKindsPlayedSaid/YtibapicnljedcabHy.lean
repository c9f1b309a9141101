/- Words of this session for rows picked out of rows that lie apart. -/
import Derived.Test.YtibapicnljedcabHx
import Derived.Test.YtibapicnljedcabWApart
namespace Go.Proofs.Ytibapicnljedcab.Hx
open Go.RowKit Go.Proofs.YtibapicnljedcabW.PrintWords Go.Proofs.YtibapicnljedcabW.PrintLast Go.Proofs.YtibapicnljedcabW.PrintMore

theorem undrew {w w' : World} (h : Below w.drew.heap.size w.drew w') : Below w.heap.size w w' := ⟨h.os, h.tape, h.output, h.size, h.block⟩
theorem bb_append {w0 w w1 : World} {o : Option Nat} (h : Below w0.heap.size w0 w) (hg : w.grownBy w1 o) (ho : ∀ k, o = some k → w0.heap.size ≤ k) : Below w0.heap.size w0 w1 :=
  ⟨hg.os.trans h.os, hg.tape.trans h.tape, hg.output.trans h.output, Nat.le_trans h.size hg.size, fun k hk => (hg.block k (by have := h.size; omega) (fun e => by have := ho k e.symm; omega)).trans (h.block k hk)⟩
/-- Rows picked out of a row of rows that lie apart lie apart. -/
theorem S_of_tags {α : Type} {d : Kd α} {f : Nat → Nat} {e : Nat} {w : World} {base : Nat} {ok : Nat → Prop} {v : Value} {L : List (α × Nat)} (h : (Kd.tag f d).R e w base ok v L) (hp : (L.map (·.2)).Nodup) : Kd.S d e w base ok v (L.map (·.1)) := by
  obtain ⟨h0, inner, ho, hr⟩ := h
  refine ⟨fun k => (L.map (·.2)).findIdx (· == f k), h0, inner, ?_, ?_⟩
  · rw [List.length_zipIdx, List.length_map]; exact ho
  · refine ⟨by rw [List.length_zipIdx, List.length_map]; exact hr.1, fun j p hj => ?_⟩
    rw [List.getElem?_zipIdx, List.getElem?_map] at hj
    cases hx : L[j]? with
    | none => rw [hx] at hj; cases hj
    | some x =>
      rw [hx] at hj
      have hj2 := Option.some.inj hj
      have h2 := hr.2 j x hx
      rw [← hj2]
      refine d.M_mono (fun k hk => ⟨hk.1, ?_⟩) h2
      show (L.map (·.2)).findIdx (· == f k) = 0 + j
      rw [hk.2, Nat.zero_add]
      have hlt : j < (L.map (·.2)).length := by rw [List.length_map]; exact (List.getElem?_eq_some_iff.1 hx).1
      have he : (L.map (·.2))[j] = x.2 := by
        have := (List.getElem?_eq_some_iff.1 hx).2
        rw [List.getElem_map, this]
      rw [List.findIdx_eq hlt]
      refine ⟨by rw [he]; simp, fun m hm => ?_⟩
      have hne : (L.map (·.2))[m]'(Nat.lt_trans hm hlt) ≠ (L.map (·.2))[j] := by
        intro hc
        have h3 := List.pairwise_iff_getElem.1 hp m j (Nat.lt_trans hm hlt) hlt hm
        exact h3 hc
      rw [he] at hne
      simpa using hne
end Go.Proofs.Ytibapicnljedcab.Hx
