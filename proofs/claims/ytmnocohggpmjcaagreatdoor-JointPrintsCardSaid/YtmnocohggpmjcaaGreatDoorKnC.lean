/- known(): Parts. -/
import Derived.Test.YtmnocohggpmjcaaGreatDoorQjKnown
set_option linter.all false
namespace Go.Pv
open Go Go.RowKit Go.Proofs
set_option maxRecDepth 100000
set_option maxHeartbeats 40000000
theorem k50 : evX Tryz.prog meJ TT primJ pcU 300 (.call 50 [kA, kS] []) = some (.call (.ret (.tuple [ii 1, ii 0])) []) := by kernel_rfl
end Go.Pv
