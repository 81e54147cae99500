/- These words were printed by the kit, not written by this session; those that are not used were left out. -/
import Derived.Test.YtkdmplfldfagnaaGreatDoorMFnCommitteesToldwInv
import Derived.Test.YtkdmplfldfagnaaGreatDoorMFnCommitteesToldwFootNe
namespace Go.Proofs.YtkdmplfldfagnaaGreatDoorW.PrintWords
open Go.RowKit
end Go.Proofs.YtkdmplfldfagnaaGreatDoorW.PrintWords
namespace Go.Proofs.YtkdmplfldfagnaaGreatDoorW.PrintLast
end Go.Proofs.YtkdmplfldfagnaaGreatDoorW.PrintLast
