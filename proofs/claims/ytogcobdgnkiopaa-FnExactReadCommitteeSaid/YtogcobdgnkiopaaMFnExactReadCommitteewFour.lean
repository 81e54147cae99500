/- These words were printed by the kit, not written by this session; those that are not used were left out. -/
import Derived.Test.YtogcobdgnkiopaaMFnExactReadCommitteewTab
namespace Go.Proofs.YtogcobdgnkiopaaW.PrintLast
end Go.Proofs.YtogcobdgnkiopaaW.PrintLast
