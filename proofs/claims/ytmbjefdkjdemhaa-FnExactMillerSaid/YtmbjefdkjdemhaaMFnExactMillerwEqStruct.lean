/- These words were printed by the kit, not written by this session; those that are not used were left out. -/
import Derived.Test.YtmbjefdkjdemhaaMFnExactMillerwWords
import Derived.Laws.StructEq
namespace Go.Proofs.YtmbjefdkjdemhaaW.PrintWords
open Go.RowKit
end Go.Proofs.YtmbjefdkjdemhaaW.PrintWords
