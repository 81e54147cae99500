/- These words were printed by the kit, not written by this session; those that are not used were left out. -/
import Derived.Test.YtmiiknkfhiecgaaDoorMFnOneLeafwWords
import Derived.Test.YtmiiknkfhiecgaaDoorMFnOneLeafwMore
import Derived.Test.YtmiiknkfhiecgaaDoorMFnOneLeafwLast
import Derived.WalkKit
namespace Go.Proofs.YtmiiknkfhiecgaaDoorW.PrintWords
open Go Go.RowKit
set_option linter.unusedVariables false
theorem b1 {w : World} {g : Nat} {o : Obj} (h : w.heap[g]? = some o) (n : Nat) : (w.drewN n).heap[g]? = some o := blk_drewN h n
theorem b2 {w : World} {g : Nat} {o : Obj} (h : w.heap[g]? = some o) : w.drew.heap[g]? = some o := blk_drew h
theorem bZ {w W0 W : World} (B : Aside0 (Below w.heap.size w W0)) (h : Aside0 (Below w.heap.size w W0) → Below w.heap.size w W := by intro hh_; repeat (first | (with_reducible first | exact hh_.out | apply below_alloc | apply pw_below_drewN | apply below_drew1 | refine below_set ?_ (by refine Aside0.out ?_; assumption)) | exact hh_.out)) : Below w.heap.size w W := h B
theorem bS {w W0 W w2 : World} (B : Aside0 (Below w.heap.size w W0)) (hb : Below W.heap.size W w2) (h : Aside0 (Below w.heap.size w W0) → Below w.heap.size w W := by intro hh_; repeat (first | (with_reducible first | exact hh_.out | apply below_alloc | apply pw_below_drewN | apply below_drew1 | refine below_set ?_ (by refine Aside0.out ?_; assumption)) | exact hh_.out)) : Aside0 (Below w.heap.size w w2) := ⟨below_step (h B) hb⟩
end Go.Proofs.YtmiiknkfhiecgaaDoorW.PrintWords
