/- These words were printed by the kit, not written by this session; those that are not used were left out. -/
import Derived.Test.YtmiiknkfhiecgaaDoorMFnHeadswTab
namespace Go.Proofs.YtmiiknkfhiecgaaDoorW.PrintLast
end Go.Proofs.YtmiiknkfhiecgaaDoorW.PrintLast
