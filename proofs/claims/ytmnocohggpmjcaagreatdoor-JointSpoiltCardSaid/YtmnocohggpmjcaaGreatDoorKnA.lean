/- known(): Reach, Known. -/
import Derived.Test.YtmnocohggpmjcaaGreatDoorQjKnown
set_option linter.all false
namespace Go.Pv
open Go Go.RowKit Go.Proofs
set_option maxRecDepth 100000
set_option maxHeartbeats 40000000
theorem k35 : evX Tryz.prog meJ TT primJ pcU 300 (.call 35 [kA, ii 1] []) = some (.call (.ret (.tuple [.sl .a [kPl 5 15, kPl 10 17, kPl 14 7, kPl 15 (-15), kPl 15 (-5), kPl 15 15, kPl 17 (-10), kPl 19 5, kPl 21 0], ii 0])) []) := by kernel_rfl
theorem k37 : evX Tryz.prog meJ TT primJ pcU 300 (.call 37 [kA, ii 1, kPl 19 5] []) = some (.call (.ret (.tuple [.sl .a [kPl 0 0, kPl 1 1, kPl 2 3], ii 0])) []) := by kernel_rfl
end Go.Pv
