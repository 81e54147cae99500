/- These words were printed by the kit, not written by this session; those that are not used were left out. -/
import Derived.Test.YtmiiknkfhiecgaaDoorMFnHeadswInv
import Derived.Test.YtmiiknkfhiecgaaDoorMFnHeadswFootNe
namespace Go.Proofs.YtmiiknkfhiecgaaDoorW.PrintWords
open Go.RowKit
end Go.Proofs.YtmiiknkfhiecgaaDoorW.PrintWords
namespace Go.Proofs.YtmiiknkfhiecgaaDoorW.PrintLast
end Go.Proofs.YtmiiknkfhiecgaaDoorW.PrintLast
