/- Words for a map that a call keeps as a memory: each entry bears the value that belongs to its key. -/
import Derived.Test.YtibapicnljedcabWMore
import Derived.Maps.Own
import Derived.DeepKeys4
import Derived.Maps.OwnOps
import Derived.Maps.AppendAt
namespace Go.Proofs.Ytibapicnljedcab.Hm
open Go.RowKit Go.Proofs.YtibapicnljedcabW.PrintWords Go.Proofs.YtibapicnljedcabW.PrintLast Go.Proofs.YtibapicnljedcabW.PrintMore
open Go.Maps (Keyed)
open Go.WideElems (Fit rd_key)

theorem nodup_le : ∀ (N : Nat) (l : List Nat), l.Nodup → (∀ x ∈ l, x < N) → l.length ≤ N
  | 0, l, _, h => by
    cases l with
    | nil => exact Nat.le_refl _
    | cons a l => exact absurd (h a (by simp)) (by omega)
  | N + 1, l, hn, h => by
    have h1 : (l.filter (fun x => x ≠ N)).length ≤ N := nodup_le N _ (hn.filter _) (fun x hx => by
      have h2 := List.mem_filter.1 hx
      have h3 := h x h2.1
      have h4 : x ≠ N := by simpa using h2.2
      omega)
    have h5 : ∀ m : List Nat, m.Nodup → m.length ≤ (m.filter (fun x => x ≠ N)).length + 1 := by
      intro m
      induction m with
      | nil => simp
      | cons a m ih =>
        intro hm
        obtain ⟨ha, hm'⟩ := List.nodup_cons.1 hm
        by_cases e : a = N
        · subst e
          have e2 : m.filter (fun x => x ≠ a) = m := List.filter_eq_self.2 (fun x hx => by
            have : x ≠ a := fun e3 => ha (e3 ▸ hx)
            simpa using this)
          rw [List.filter_cons_of_neg (by simp), e2]
          simp
        · have := ih hm'
          have e4 : (a :: m).filter (fun x => x ≠ N) = a :: m.filter (fun x => x ≠ N) := by simp [e]
          rw [e4]
          simp only [List.length_cons]
          omega
    exact Nat.le_trans (h5 l hn) (by omega)

/-- Block b is a map whose entries bear what belongs to their keys. -/
def Mem (P : Program) (k e : TypeId) (I : Value → Option Int) (w : World) (b : Nat) : Prop :=
  ∃ es clock, w.heap[b]? = some (.map es clock) ∧ Fit P k (plainElem (H := Unit) P e) es clock ∧ ∀ x ∈ es.toList, ∃ n, I x.key = some n ∧ x.val = .int .i64 n

theorem Mem.lt {P : Program} {k e : TypeId} {I : Value → Option Int} {w : World} {b : Nat} (h : Mem P k e I w b) : b < w.heap.size := by
  obtain ⟨es, clock, hb, _⟩ := h
  exact (Array.getElem?_eq_some_iff.1 hb).1

theorem Mem.made (P : Program) (k e : TypeId) (I : Value → Option Int) (w : World) : Mem P k e I (w.alloc (.map #[] 0)) w.heap.size :=
  ⟨#[], 0, (MapKept.heap_alloc w _).1, ⟨by simp, MapKept.stamped_empty 0, by simp⟩, by simp⟩

theorem Mem.same {P : Program} {k e : TypeId} {I : Value → Option Int} {w w' : World} {b : Nat} (h : Mem P k e I w b) (hb : w'.heap[b]? = w.heap[b]?) : Mem P k e I w' b := by
  obtain ⟨es, clock, h1, h2⟩ := h
  exact ⟨es, clock, hb.trans h1, h2⟩

theorem Mem.alloc {P : Program} {k e : TypeId} {I : Value → Option Int} {w : World} {b : Nat} (h : Mem P k e I w b) (o : Obj) : Mem P k e I (w.alloc o) b :=
  h.same ((MapKept.heap_alloc w o).2 b h.lt)

theorem Mem.below {P : Program} {k e : TypeId} {I : Value → Option Int} {w w' : World} {b : Nat} (h : Mem P k e I w b) (hb : Below w.heap.size w w') : Mem P k e I w' b :=
  h.same (hb.block b h.lt)

theorem Mem.look {P : Program} {k e t : TypeId} {I : Value → Option Int} {w : World} {b : Nat} (h : Mem P k e I w b) (K : Keyed P k) (ht : P.underlying t = some (.map k e)) (hz : (zeroValue e).run P w = .ok (.int .i64 0) w)
    {key : Value} {kl : Lit} {n : Int} (hkey : keyOf P k key = some kl) (hI : I key = some n) :
    (Instr.lookup t (.map (some b)) key true).run P w = .ok (.tuple #[.int .i64 0, .bool false]) w ∨ (Instr.lookup t (.map (some b)) key true).run P w = .ok (.tuple #[.int .i64 n, .bool true]) w := by
  obtain ⟨es, clock, hb, F, hv⟩ := h
  rcases Maps.fit_look true K ht hz hb F hkey with ⟨hrun, _⟩ | ⟨e0, y, hm, hk, hrun, _⟩
  · exact .inl hrun
  · obtain ⟨m, h1, h2⟩ := hv e0 hm
    rw [hk, hI] at h1
    cases h1
    rw [h2] at hrun
    exact .inr hrun

theorem Mem.store {P : Program} {k e t : TypeId} {I : Value → Option Int} {w : World} {b : Nat} (h : Mem P k e I w b) (K : Keyed P k) (ht : P.underlying t = some (.map k e)) (he : P.underlying e = some (.int .i64))
    (pl : Value → Nat) (N : Nat) (hN : N < maxLen) (hlt : ∀ v n, I v = some n → pl v < N) (hinj : ∀ u v m n, I u = some m → I v = some n → pl u = pl v → u = v)
    {key : Value} {kl : Lit} {n : Int} (hkey : keyOf P k key = some kl) (hI : I key = some n) (hn : (Lit.int .i64 n).wf = true) :
    ∃ w', (Instr.mapUpdate t (.map (some b)) key (.int .i64 n)).run P w = .ok () w' ∧ Mem P k e I w' b ∧ w.grownBy w' (some b) := by
  obtain ⟨es, clock, hb, F, hv⟩ := h
  have hroom : es.size < maxLen := by
    have h1 : (es.toList.map (fun x => pl x.key)).Nodup := by
      have h2 := F.stamped.2.2
      rw [List.nodup_iff_pairwise_ne] at h2 ⊢
      rw [List.pairwise_map] at h2 ⊢
      refine (List.pairwise_iff_forall_sublist.2 ?_)
      intro a c hac hpl
      have ha : a ∈ es.toList := hac.subset (by simp)
      have hc : c ∈ es.toList := hac.subset (by simp)
      obtain ⟨m1, e1, _⟩ := hv a ha
      obtain ⟨m2, e2, _⟩ := hv c hc
      exact (List.pairwise_iff_forall_sublist.1 h2 hac) (hinj _ _ _ _ e1 e2 hpl)
    have h3 := nodup_le N _ h1 (fun x hx => by
      obtain ⟨y, hy, rfl⟩ := List.mem_map.1 hx
      obtain ⟨m1, e1, _⟩ := hv y hy
      exact hlt _ _ e1)
    simp only [List.length_map, Array.length_toList] at h3
    omega
  obtain ⟨es', clock', hrun, F', _, _, _, hes⟩ := Maps.fit_store (R' := plainElem (H := Unit) P e) K ht hb F hroom (fun _ _ _ _ hz => hz) hkey (plainElem_int he hn)
  refine ⟨_, hrun, ⟨es', clock', ChangeMaps.heap_setBlock_same hb _, F', fun x hx => ?_⟩, ⟨rfl, rfl, rfl, by simp [ChangeMaps.setBlock], fun i _ hi => ChangeMaps.heap_setBlock_other hb _ (fun e => hi (by rw [e]))⟩⟩
  rcases hes x hx with ⟨h1, _⟩ | ⟨h1, h2⟩
  · exact hv x h1
  · exact ⟨n, by rw [h1]; exact hI, h2⟩

theorem Mem.look' {P : Program} {k e t : TypeId} {I : Value → Option Int} {w : World} {b : Nat} (h : Mem P k e I w b) (K : Keyed P k) (ht : P.underlying t = some (.map k e)) (hz : ∀ w, (zeroValue e).run P w = .ok (.int .i64 0) w)
    {key : Value} {kl : Lit} {n : Int} (hkey : keyOf P k key = some kl) (hI : I key = some n) :
    (∀ w' : World, w'.heap[b]? = w.heap[b]? → (Instr.lookup t (.map (some b)) key true).run P w' = .ok (.tuple #[.int .i64 0, .bool false]) w') ∨
    (∀ w' : World, w'.heap[b]? = w.heap[b]? → (Instr.lookup t (.map (some b)) key true).run P w' = .ok (.tuple #[.int .i64 n, .bool true]) w') := by
  obtain ⟨es, clock, hb, F, hv⟩ := h
  by_cases hx : ∃ x ∈ es.toList, x.key = key
  · refine .inr fun w' hw => ?_
    rcases Maps.fit_look true K ht (hz w') (hw.trans hb) F hkey with ⟨_, hne, _⟩ | ⟨e0, y, hm, hk, hrun, _⟩
    · obtain ⟨x, hx1, hx2⟩ := hx
      exact absurd hx2 (hne x hx1)
    · obtain ⟨m, h1, h2⟩ := hv e0 hm
      rw [hk, hI] at h1
      cases h1
      rw [h2] at hrun
      exact hrun
  · refine .inl fun w' hw => ?_
    rcases Maps.fit_look true K ht (hz w') (hw.trans hb) F hkey with ⟨hrun, _⟩ | ⟨e0, y, hm, hk, _⟩
    · exact hrun
    · exact absurd ⟨e0, hm, hk⟩ hx

theorem at_store {P : Program} {w : World} {ops : Array Oper} {rest : List Oper} {o : Oper} {a : Act} {Q : Exit → Act → World → Prop} (hg : o.guard = none) (hd : o.dst = none) (m x v : Operand) (t : TypeId) (hop : o.op = Op.mapUpdate t m x v)
    (b : Nat) (key val : Value) (w' : World) (hm : a.eval m = .map (some b)) (hx : a.eval x = key) (hv : a.eval v = val) (hrun : (Instr.mapUpdate t (.map (some b)) key val).run P w = .ok () w')
    (h : wpList P ops Q rest a w') : wpList P ops Q (o :: rest) a w := by
  refine wpList_plain hg fun K' hK' => ?_
  unfold Oper.wp
  simp [execOp, hop, hm, hx, hv, hrun, Result.andThen]
  exact hK' _ _ (by rw [hd]; exact h)
end Go.Proofs.Ytibapicnljedcab.Hm
