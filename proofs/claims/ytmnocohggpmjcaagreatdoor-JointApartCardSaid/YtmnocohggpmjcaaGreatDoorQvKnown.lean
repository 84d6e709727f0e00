/- Contracts: lists of spans alike; the reference's bounds of turns. -/
import Derived.Test.YtmnocohggpmjcaaGreatDoorQvTurns
import Derived.Test.YtmnocohggpmjcaaGreatDoorQtA
set_option linter.all false
namespace Go.Pv
open Go Go.RowKit Go.Proofs
set_option maxRecDepth 10000
set_option maxHeartbeats 4000000
end Go.Pv
