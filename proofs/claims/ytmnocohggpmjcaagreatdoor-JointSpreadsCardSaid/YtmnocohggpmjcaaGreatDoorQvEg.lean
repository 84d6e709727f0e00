/- The end of a limb in a pose, in plain terms. -/
import Derived.Test.YtmnocohggpmjcaaGreatDoorQfJoint
set_option linter.all false
namespace Go.Pv
/-- The end of a limb in a pose. -/
def endG1 (s : Int) (ls : List Lb) (limb : Int) (l : List Int) : Pl := (ends s ls l).getD limb.toNat (0, 0)
end Go.Pv
