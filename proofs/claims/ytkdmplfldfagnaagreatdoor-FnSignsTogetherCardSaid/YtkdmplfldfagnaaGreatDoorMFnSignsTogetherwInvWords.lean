/- These words were printed by the kit, not written by this session; those that are not used were left out. -/
import Derived.Test.YtkdmplfldfagnaaGreatDoorMFnSignsTogetherwInv
import Derived.Test.YtkdmplfldfagnaaGreatDoorMFnSignsTogetherwFootNe
namespace Go.Proofs.YtkdmplfldfagnaaGreatDoorW.PrintWords
open Go.RowKit
end Go.Proofs.YtkdmplfldfagnaaGreatDoorW.PrintWords
namespace Go.Proofs.YtkdmplfldfagnaaGreatDoorW.PrintLast
end Go.Proofs.YtkdmplfldfagnaaGreatDoorW.PrintLast
