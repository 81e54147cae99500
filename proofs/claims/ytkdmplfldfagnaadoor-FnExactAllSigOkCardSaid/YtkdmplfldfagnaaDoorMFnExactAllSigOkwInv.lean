/- These words were printed by the kit, not written by this session; those that are not used were left out. -/
import Derived.Test.YtkdmplfldfagnaaDoorMFnExactAllSigOkwTab
namespace Go.Proofs.YtkdmplfldfagnaaDoorW.PrintLast
def up (b : Nat → Bool) (i : Nat) : Nat → Bool := fun j => if j = i then true else b j
end Go.Proofs.YtkdmplfldfagnaaDoorW.PrintLast
