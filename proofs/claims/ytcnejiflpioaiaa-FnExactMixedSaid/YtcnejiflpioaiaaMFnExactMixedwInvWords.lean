/- These words were printed by the kit, not written by this session; those that are not used were left out. -/
import Derived.Test.YtcnejiflpioaiaaMFnExactMixedwInv
import Derived.Test.YtcnejiflpioaiaaMFnExactMixedwFootNe
namespace Go.Proofs.YtcnejiflpioaiaaW.PrintWords
open Go.RowKit
end Go.Proofs.YtcnejiflpioaiaaW.PrintWords
namespace Go.Proofs.YtcnejiflpioaiaaW.PrintLast
end Go.Proofs.YtcnejiflpioaiaaW.PrintLast
