/- known(): Path. -/
import Derived.Test.YtmnocohggpmjcaaGreatDoorQjKnown
set_option linter.all false
namespace Go.Pv
open Go Go.RowKit Go.Proofs
set_option maxRecDepth 100000
set_option maxHeartbeats 40000000
theorem k42 : evX Tryz.prog meJ TT primJ pcU 300 (.call 42 [kA, kS, kP 0 0 2, kP (-1) 2 3] []) = some (.call (.ret (.tuple [.sl .a [kPl 1 1, kPl 0 (-1), kPl 1 1, kPl 2 1], ii 0])) []) := by kernel_rfl
end Go.Pv
