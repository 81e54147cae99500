/- These words were printed by the kit, not written by this session; those that are not used were left out. -/
import Derived.Test.YtmiiknkfhiecgaaDoorMFnOneLeafwWords
import Derived.Laws.StructEq
namespace Go.Proofs.YtmiiknkfhiecgaaDoorW.PrintWords
open Go.RowKit
end Go.Proofs.YtmiiknkfhiecgaaDoorW.PrintWords
