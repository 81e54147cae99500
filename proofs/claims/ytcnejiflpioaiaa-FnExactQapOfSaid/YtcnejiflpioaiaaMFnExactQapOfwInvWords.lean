/- These words were printed by the kit, not written by this session; those that are not used were left out. -/
import Derived.Test.YtcnejiflpioaiaaMFnExactQapOfwInv
import Derived.Test.YtcnejiflpioaiaaMFnExactQapOfwFootNe
namespace Go.Proofs.YtcnejiflpioaiaaW.PrintWords
open Go.RowKit
end Go.Proofs.YtcnejiflpioaiaaW.PrintWords
namespace Go.Proofs.YtcnejiflpioaiaaW.PrintLast
end Go.Proofs.YtcnejiflpioaiaaW.PrintLast
