/- known(): First, Spread, Sure. -/
import Derived.Test.YtmnocohggpmjcaaGreatDoorQjKnown
set_option linter.all false
namespace Go.Pv
open Go Go.RowKit Go.Proofs
set_option maxRecDepth 100000
set_option maxHeartbeats 40000000
theorem k52 : evX Tryz.prog meJ TT primJ pcU 300 (.call 52 [kA, kS] []) = some (.call (.ret (.tuple [kR (-1) 1 2, ii 10, ii 0])) []) := by kernel_rfl
theorem k53 : evX Tryz.prog meJ TT primJ pcU 300 (.call 53 [kA, kP 0 1 2, ii 1] []) = some (.call (.ret (.tuple [.sl .a [kPl 14 7, kPl 19 5, kPl 21 0], ii 0])) []) := by kernel_rfl
theorem k55 : evX Tryz.prog meJ TT primJ pcU 300 (.call 55 [kA, kS, kP (-1) 1 2] []) = some (.call (.ret (.tuple [ii 2, ii 0])) []) := by kernel_rfl
theorem k56 : evX Tryz.prog meJ TT primJ pcU 300 (.call 56 [kA, kS, kP (-1) 1 2] []) = some (.call (.ret (.tuple [kR (-1) 0 2, ii 0])) []) := by kernel_rfl
end Go.Pv
