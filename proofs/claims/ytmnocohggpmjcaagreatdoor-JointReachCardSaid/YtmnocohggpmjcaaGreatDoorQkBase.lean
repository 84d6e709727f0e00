/- The contract of known(), as a table; lists that are closed. -/
import Derived.Test.YtmnocohggpmjcaaGreatDoorQgEnds
set_option linter.all false
namespace Go.Pv
open Go Go.RowKit Go.Proofs
def c29 : List PV → List Box → Option (PRes × List Box)
  | [], sg => some (.ret (.bool true), sg)
  | _, _ => none
theorem closedL_lbs (l : List Lb) : closedL (l.map encLb) = true := closedL_map (fun _ => rfl) l
end Go.Pv
