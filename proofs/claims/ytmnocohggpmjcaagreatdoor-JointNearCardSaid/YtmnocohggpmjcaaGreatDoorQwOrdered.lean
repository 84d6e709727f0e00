/- Lists of places in order, each once: what is put in one after the other is what is sorted. In plain terms, no program in sight. -/
import Derived.Test.YtmnocohggpmjcaaGreatDoorQlSort
import Derived.Test.YtmnocohggpmjcaaGreatDoorQgEnds
import Derived.Test.YtmnocohggpmjcaaGreatDoorQdWalk
import Derived.Shelf.SlSortCmp.NoneTotal
import Derived.Test.YtmnocohggpmjcaaGreatDoorProg
import Derived.Test.YtmnocohggpmjcaaGreatDoorQfJoint
import Derived.Test.YtmnocohggpmjcaaGreatDoorQoFine
import Derived.Test.YtmnocohggpmjcaaGreatDoorQlLoop
set_option linter.all false
namespace Go.Pv
end Go.Pv
namespace Go.Pv
open Go Go.Sort Go.Shelf Go.Proofs
end Go.Pv
namespace Go.Pv
open Go Go.RowKit Go.Proofs
set_option maxRecDepth 10000
set_option maxHeartbeats 4000000
end Go.Pv
namespace Go.Proofs
open Go.Shelf
end Go.Proofs
namespace Go.Pv
open Go Go.RowKit Go.Proofs
set_option maxRecDepth 10000
set_option maxHeartbeats 4000000
end Go.Pv
namespace Go.Pv
open Go Go.RowKit Go.Proofs
set_option maxRecDepth 10000
set_option maxHeartbeats 4000000
end Go.Pv
