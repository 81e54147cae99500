/- These words were printed by the kit, not written by this session; those that are not used were left out. -/
import Derived.Test.YtkdmplfldfagnaaDoorMFnCommitteeswInv
import Derived.Test.YtkdmplfldfagnaaDoorMFnCommitteeswFootNe
namespace Go.Proofs.YtkdmplfldfagnaaDoorW.PrintWords
open Go.RowKit
end Go.Proofs.YtkdmplfldfagnaaDoorW.PrintWords
namespace Go.Proofs.YtkdmplfldfagnaaDoorW.PrintLast
end Go.Proofs.YtkdmplfldfagnaaDoorW.PrintLast
