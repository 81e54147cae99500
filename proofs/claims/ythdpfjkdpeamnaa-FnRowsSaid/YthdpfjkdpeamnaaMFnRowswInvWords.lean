/- These words were printed by the kit, not written by this session; those that are not used were left out. -/
import Derived.Test.YthdpfjkdpeamnaaMFnRowswInv
import Derived.Test.YthdpfjkdpeamnaaMFnRowswFootNe
namespace Go.Proofs.YthdpfjkdpeamnaaW.PrintWords
open Go.RowKit
end Go.Proofs.YthdpfjkdpeamnaaW.PrintWords
namespace Go.Proofs.YthdpfjkdpeamnaaW.PrintLast
end Go.Proofs.YthdpfjkdpeamnaaW.PrintLast
