/- How many poses and truths there are at most; the bounds of turns. In plain terms. -/
import Derived.Test.YtmnocohggpmjcaaGreatDoorQmLists
import Derived.Test.YtmnocohggpmjcaaGreatDoorQyAway
import Derived.Test.YtmnocohggpmjcaaGreatDoorQpHands
import Derived.Test.YtmnocohggpmjcaaGreatDoorQtA
import Derived.Test.YtmnocohggpmjcaaGreatDoorQlTop
import Derived.Test.YtmnocohggpmjcaaGreatDoorQoFine
import Derived.Test.YtmnocohggpmjcaaGreatDoorQfJoint
import Derived.Test.YtmnocohggpmjcaaGreatDoorQgEnds
import Derived.Test.YtmnocohggpmjcaaGreatDoorQlLoop
import Derived.Test.YtmnocohggpmjcaaGreatDoorQwOrdered
set_option linter.all false
namespace Go.Pv
open Go Go.RowKit Go.Proofs
/-- What the bounds say. -/
structure BndOk (ls : List Lb) (M : List (List Int)) (i : Nat) (a : Int × Int) : Prop where
  le : a.1 ≤ a.2
  lo : ∀ x, ls[i]? = some x → x.lo ≤ a.1 ∧ a.2 ≤ x.hi
  all : ∀ l ∈ M, ∀ t, l[i]? = some t → a.1 ≤ t ∧ t ≤ a.2
end Go.Pv
