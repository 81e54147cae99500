/- These words were printed by the kit, not written by this session; those that are not used were left out. -/
import Derived.Test.YthdpfjkdpeamnaaMFnRowswTab
namespace Go.Proofs.YthdpfjkdpeamnaaW.PrintLast
end Go.Proofs.YthdpfjkdpeamnaaW.PrintLast
