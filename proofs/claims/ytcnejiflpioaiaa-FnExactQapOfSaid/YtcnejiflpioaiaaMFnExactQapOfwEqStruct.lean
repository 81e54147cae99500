/- These words were printed by the kit, not written by this session; those that are not used were left out. -/
import Derived.Test.YtcnejiflpioaiaaMFnExactQapOfwWords
import Derived.Laws.StructEq
namespace Go.Proofs.YtcnejiflpioaiaaW.PrintWords
open Go.RowKit
end Go.Proofs.YtcnejiflpioaiaaW.PrintWords
