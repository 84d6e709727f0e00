/- known(): Mends, Read. -/
import Derived.Test.YtmnocohggpmjcaaGreatDoorQjKnown
set_option linter.all false
namespace Go.Pv
open Go Go.RowKit Go.Proofs
set_option maxRecDepth 100000
set_option maxHeartbeats 40000000
theorem k60 : evX Tryz.prog meJ TT primJ pcU 300 (.call 60 [kA, kS, .sl .f [kP (-1) 1 2, kP 0 1 2]] []) = some (.call (.ret (.tuple [.sl .a [ii 1], ii 0])) []) := by kernel_rfl
/-- The sheet of the chapter's example. -/
def kT : PV := .str [102, 105, 103, 117, 114, 101, 32, 50, 10, 108, 105, 109, 98, 32, 45, 49, 32, 51, 32, 45, 49, 32, 49, 32, 48, 10, 101, 110, 100, 32, 48, 53, 49, 10]
theorem k76 : evX Tryz.prog meJ TT primJ pcU 300 (.call 76 [kT] []) = some (.call (.ret (.tuple [.agg [ii 2, .sl .a [encLb ⟨-1, 3, -1, 1, 0⟩]], ii 0])) []) := by kernel_rfl
end Go.Pv
