/- These words were printed by the kit, not written by this session; those that are not used were left out. -/
import Derived.Test.YtkdmplfldfagnaaDoorMFnCommitteeswTab
namespace Go.Proofs.YtkdmplfldfagnaaDoorW.PrintLast
end Go.Proofs.YtkdmplfldfagnaaDoorW.PrintLast
