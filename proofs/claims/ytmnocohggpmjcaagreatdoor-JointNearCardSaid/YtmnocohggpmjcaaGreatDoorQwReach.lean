/- Contracts: where the end of a limb can be: Reach. -/
import Derived.Test.YtmnocohggpmjcaaGreatDoorQwOrdered
import Derived.Test.YtmnocohggpmjcaaGreatDoorQoFine
set_option linter.all false
namespace Go.Pv
open Go Go.RowKit Go.Proofs
set_option maxRecDepth 10000
set_option maxHeartbeats 4000000
theorem limb_in {ls : List Lb} {n : Int} (h : limbG ls n = true) : 0 ≤ n ∧ n < ls.length := by
  unfold limbG at h
  simp [inB] at h; omega
end Go.Pv
