/- Contracts: where the end of a limb can be: Reach. -/
import Derived.Test.YtmnocohggpmjcaaGreatDoorQlSort
import Derived.Test.YtmnocohggpmjcaaGreatDoorQgEnds
import Derived.Test.YtmnocohggpmjcaaGreatDoorQdWalk
import Derived.Shelf.SlSortCmp.NoneTotal
import Derived.Test.YtmnocohggpmjcaaGreatDoorProg
import Derived.Test.YtmnocohggpmjcaaGreatDoorQfJoint
import Derived.Test.YtmnocohggpmjcaaGreatDoorQoFine
import Derived.Test.YtmnocohggpmjcaaGreatDoorQlLoop
set_option linter.all false
namespace Go.Pv
open Go Go.RowKit Go.Proofs
set_option maxRecDepth 10000
set_option maxHeartbeats 4000000
theorem limb_in {ls : List Lb} {n : Int} (h : limbG ls n = true) : 0 ≤ n ∧ n < ls.length := by
  unfold limbG at h
  simp [inB] at h; omega
end Go.Pv
