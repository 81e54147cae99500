/- These words were printed by the kit, not written by this session; those that are not used were left out. -/
import Derived.Test.YthdpfjkdpeamnaaMFnExactCountWitnesswLast
import Derived.Test.YthdpfjkdpeamnaaMFnExactCountWitnesswWords
namespace Go.Proofs.YthdpfjkdpeamnaaW.PrintLast
open Go.Proofs.YthdpfjkdpeamnaaW.PrintWords (Aside0)
end Go.Proofs.YthdpfjkdpeamnaaW.PrintLast
