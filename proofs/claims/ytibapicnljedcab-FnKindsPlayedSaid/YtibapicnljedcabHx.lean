/- Words of this session for facts about blocks that come through calls and stores. -/
import Derived.Test.YtibapicnljedcabHw
namespace Go.Proofs.Ytibapicnljedcab.Hx
open Go.RowKit Go.Proofs.YtibapicnljedcabW.PrintWords Go.Proofs.YtibapicnljedcabW.PrintLast Go.Proofs.YtibapicnljedcabW.PrintMore

theorem b_below {w w1 : World} {g : Nat} {o : Obj} (hb : Below w.heap.size w w1) (h : w.heap[g]? = some o) : w1.heap[g]? = some o := blk_below h hb
theorem b_grown {w w1 : World} {g : Nat} {o : Obj} {r : Option Nat} (hg : w.grownBy w1 r) (h : w.heap[g]? = some o) (hne : some g ≠ r) : w1.heap[g]? = some o := blk_grown h hg hne
theorem bb_below {w0 w w1 : World} (hb : Below w.heap.size w w1) (h : Below w0.heap.size w0 w) : Below w0.heap.size w0 w1 := below_step h hb
theorem g_refl (w : World) (r : Option Nat) : w.grownBy w r := ⟨rfl, rfl, rfl, Nat.le_refl _, fun _ _ _ => rfl⟩
theorem g_below {w0 w w' : World} {r : Option Nat} (h : w0.grownBy w r) (hb : Below w.heap.size w w') : w0.grownBy w' r :=
  ⟨hb.os.trans h.os, hb.tape.trans h.tape, hb.output.trans h.output, Nat.le_trans h.size hb.size, fun i hi hr => (hb.block i (by have := h.size; omega)).trans (h.block i hi hr)⟩
theorem g_drew {w W : World} {r : Option Nat} (h : w.grownBy W r) : w.grownBy W.drew r := ⟨h.os, h.tape, h.output, h.size, h.block⟩
theorem g_drewN {w W : World} {r : Option Nat} (h : w.grownBy W r) (n : Nat) : w.grownBy (W.drewN n) r := ⟨h.os, h.tape, h.output, h.size, h.block⟩
theorem g_alloc {w W : World} {r : Option Nat} (h : w.grownBy W r) (o : Obj) : w.grownBy (W.alloc o) r := g_below h (below_alloc (Below.refl _ _) o)
theorem size_set {n : Nat} {W : World} {p : Addr} {v : Value} (h : n ≤ W.heap.size) : n ≤ (W.setCell p v).heap.size := by simpa [World.setCell] using h
theorem g_set {w W : World} {r : Option Nat} (h : w.grownBy W r) {g i : Nat} {v : Value} (hg : w.heap.size ≤ g) : w.grownBy (W.setCell ⟨g, i, none⟩ v) r :=
  ⟨h.os, h.tape, h.output, by simpa [World.setCell] using h.size, fun j hj hr => (Below.heap_setCell W _ v j (by simp; omega)).trans (h.block j hj hr)⟩
theorem g_append {w0 w w' : World} {r o : Option Nat} (h : w0.grownBy w r) (hg : w.grownBy w' o) (ho : ∀ k, o = some k → w0.heap.size ≤ k) : w0.grownBy w' r :=
  ⟨hg.os.trans h.os, hg.tape.trans h.tape, hg.output.trans h.output, Nat.le_trans h.size hg.size, fun i hi hr => (hg.block i (by have := h.size; omega) (fun e => by have := ho i e.symm; omega)).trans (h.block i hi hr)⟩
/-- What a call kept but for one block, made since the begin, stands below the begin. -/
theorem bb_grown {w0 w w1 : World} {m : Nat} (h : Below w0.heap.size w0 w) (hg : w.grownBy w1 (some m)) (hm : w0.heap.size ≤ m) : Below w0.heap.size w0 w1 :=
  ⟨hg.os.trans h.os, hg.tape.trans h.tape, hg.output.trans h.output, Nat.le_trans h.size hg.size, fun k hk => (hg.block k (by have := h.size; omega) (by simp; omega)).trans (h.block k hk)⟩
end Go.Proofs.Ytibapicnljedcab.Hx
