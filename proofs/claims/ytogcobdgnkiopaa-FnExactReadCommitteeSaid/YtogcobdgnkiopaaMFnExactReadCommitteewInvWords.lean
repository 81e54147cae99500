/- These words were printed by the kit, not written by this session; those that are not used were left out. -/
import Derived.Test.YtogcobdgnkiopaaMFnExactReadCommitteewInv
import Derived.Test.YtogcobdgnkiopaaMFnExactReadCommitteewFootNe
namespace Go.Proofs.YtogcobdgnkiopaaW.PrintWords
open Go.RowKit
end Go.Proofs.YtogcobdgnkiopaaW.PrintWords
namespace Go.Proofs.YtogcobdgnkiopaaW.PrintLast
end Go.Proofs.YtogcobdgnkiopaaW.PrintLast
