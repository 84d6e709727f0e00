/- known(): Aim. -/
import Derived.Test.YtmnocohggpmjcaaGreatDoorQjKnown
set_option linter.all false
namespace Go.Pv
open Go Go.RowKit Go.Proofs
set_option maxRecDepth 100000
set_option maxHeartbeats 40000000
theorem k47 : evX Tryz.prog meJ TT primJ pcU 300 (.call 47 [kA, kS, kP 0 0 2, ii 1, kPl 15 (-5)] []) = some (.call (.ret (.tuple [kR (-1) 2 2, ii 3, ii 0])) []) := by kernel_rfl
end Go.Pv
