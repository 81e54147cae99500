/- These words were printed by the kit, not written by this session; those that are not used were left out. -/
import Derived.Test.YtkdmplfldfagnaaGreatDoorMFnCommitteesToldwTab
namespace Go.Proofs.YtkdmplfldfagnaaGreatDoorW.PrintLast
end Go.Proofs.YtkdmplfldfagnaaGreatDoorW.PrintLast
