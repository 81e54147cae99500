/- These words were printed by the kit, not written by this session; those that are not used were left out. -/
import Derived.Test.YtcnejiflpioaiaaMFnQapswInv
import Derived.Test.YtcnejiflpioaiaaMFnQapswFootNe
namespace Go.Proofs.YtcnejiflpioaiaaW.PrintWords
open Go.RowKit
end Go.Proofs.YtcnejiflpioaiaaW.PrintWords
namespace Go.Proofs.YtcnejiflpioaiaaW.PrintLast
end Go.Proofs.YtcnejiflpioaiaaW.PrintLast
