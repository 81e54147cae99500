/- These words were printed by the kit, not written by this session; those that are not used were left out. -/
import Derived.Test.YtcnejiflpioaiaaMFnExactQapOfwTab
namespace Go.Proofs.YtcnejiflpioaiaaW.PrintLast
end Go.Proofs.YtcnejiflpioaiaaW.PrintLast
