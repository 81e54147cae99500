/- These words were printed by the kit, not written by this session; those that are not used were left out. -/
import Derived.Test.YtmbjefdkjdemhaaMFnPointswInv
import Derived.Test.YtmbjefdkjdemhaaMFnPointswFootNe
namespace Go.Proofs.YtmbjefdkjdemhaaW.PrintWords
open Go.RowKit
end Go.Proofs.YtmbjefdkjdemhaaW.PrintWords
namespace Go.Proofs.YtmbjefdkjdemhaaW.PrintLast
end Go.Proofs.YtmbjefdkjdemhaaW.PrintLast
