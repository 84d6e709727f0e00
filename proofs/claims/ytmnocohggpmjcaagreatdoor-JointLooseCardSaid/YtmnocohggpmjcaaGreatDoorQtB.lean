/- Contracts: the reference's lists between two others. -/
import Derived.Test.YtmnocohggpmjcaaGreatDoorQoFine
import Derived.Test.YtmnocohggpmjcaaGreatDoorQlGh
import Derived.Test.YtmnocohggpmjcaaGreatDoorQtA
set_option linter.all false
namespace Go.Pv
open Go Go.RowKit Go.Proofs
set_option maxRecDepth 10000
set_option maxHeartbeats 4000000
theorem pvL_closed (l : List Int) : (pvL l).closed = true := by unfold pvL; exact closedL_is l
end Go.Pv
namespace Go.Pv
open Go Go.RowKit Go.Proofs
set_option maxRecDepth 10000
set_option maxHeartbeats 4000000
end Go.Pv
