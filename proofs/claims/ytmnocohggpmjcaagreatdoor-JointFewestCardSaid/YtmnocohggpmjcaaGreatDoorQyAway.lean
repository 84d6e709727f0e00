/- Contracts: how far all fine poses are from one: the walk. -/
import Derived.Test.YtmnocohggpmjcaaGreatDoorQyKey
import Derived.Test.YtmnocohggpmjcaaGreatDoorQyTurn
import Derived.Test.YtmnocohggpmjcaaGreatDoorQlTop
import Derived.Test.YtmnocohggpmjcaaGreatDoorQlLoop
set_option linter.all false
namespace Go.Pv
open Go Go.RowKit Go.Proofs
set_option maxRecDepth 10000
set_option maxHeartbeats 4000000
theorem cpv_nilm : cpv (.map none) = some .nilm := rfl
attribute [go_sem] cpv_nilm
end Go.Pv
