/- Words of this session for two blocks made in one statement. -/
import Derived.Test.YtacokiggjjjbbaaDoorHy
namespace Go.Proofs.YtacokiggjjjbbaaDoor.Hz
open Go.RowKit Go.Proofs.YtacokiggjjjbbaaDoorW.PrintWords Go.Proofs.YtacokiggjjjbbaaDoorW.PrintLast Go.Proofs.YtacokiggjjjbbaaDoorW.PrintMore

theorem two_alloc (w : World) (o1 o2 : Obj) : ((w.alloc o1).alloc o2).drew.heap[w.heap.size]? = some o1 ∧ ((w.alloc o1).alloc o2).drew.heap[w.heap.size + 1]? = some o2 := by
  refine ⟨blk_drew (blk_alloc (blk_new _ _) _), ?_⟩
  have h := blk_new (w.alloc o1) o2
  rw [World.size_alloc] at h
  exact blk_drew h
end Go.Proofs.YtacokiggjjjbbaaDoor.Hz
