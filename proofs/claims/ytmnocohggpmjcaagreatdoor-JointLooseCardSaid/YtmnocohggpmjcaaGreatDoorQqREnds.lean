/- Contracts: the reference's ends; Check. -/
import Derived.Test.YtmnocohggpmjcaaGreatDoorQkSame
set_option linter.all false
namespace Go.Pv
open Go Go.RowKit Go.Proofs
set_option maxRecDepth 10000
set_option maxHeartbeats 4000000
end Go.Pv
