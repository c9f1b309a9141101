/- Words of this session for two blocks made in one statement. -/
import Derived.Test.YtmakhnpjfdgocaaDoorHy
namespace Go.Proofs.YtmakhnpjfdgocaaDoor.Hz
open Go.RowKit Go.Proofs.YtmakhnpjfdgocaaDoorW.PrintWords Go.Proofs.YtmakhnpjfdgocaaDoorW.PrintLast Go.Proofs.YtmakhnpjfdgocaaDoorW.PrintMore

theorem two_alloc (w : World) (o1 o2 : Obj) : ((w.alloc o1).alloc o2).drew.heap[w.heap.size]? = some o1 ∧ ((w.alloc o1).alloc o2).drew.heap[w.heap.size + 1]? = some o2 := by
  refine ⟨blk_drew (blk_alloc (blk_new _ _) _), ?_⟩
  have h := blk_new (w.alloc o1) o2
  rw [World.size_alloc] at h
  exact blk_drew h
end Go.Proofs.YtmakhnpjfdgocaaDoor.Hz
