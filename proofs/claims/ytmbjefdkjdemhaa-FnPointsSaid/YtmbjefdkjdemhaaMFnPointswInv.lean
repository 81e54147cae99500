/- These words were printed by the kit, not written by this session; those that are not used were left out. -/
import Derived.Test.YtmbjefdkjdemhaaMFnPointswTab
namespace Go.Proofs.YtmbjefdkjdemhaaW.PrintLast
end Go.Proofs.YtmbjefdkjdemhaaW.PrintLast
