/- These words were printed by the kit, not written by this session; those that are not used were left out. -/
import Derived.Test.YtmbjefdkjdemhaaMFnPointswN
namespace Go.Proofs.YtmbjefdkjdemhaaW.PrintWords
open Go.RowKit
namespace Kd
end Kd
end Go.Proofs.YtmbjefdkjdemhaaW.PrintWords
