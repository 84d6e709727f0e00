/- Ways, in plain terms: turns go both ways; the search is complete; from what was met a turn leads nearer. -/
import Derived.Test.YtmnocohggpmjcaaGreatDoorQmLists
import Derived.Test.YtmnocohggpmjcaaGreatDoorQyAway
import Derived.Test.YtmnocohggpmjcaaGreatDoorQpHands
import Derived.Test.YtmnocohggpmjcaaGreatDoorQtA
import Derived.Test.YtmnocohggpmjcaaGreatDoorQlTop
import Derived.Test.YtmnocohggpmjcaaGreatDoorQoFine
import Derived.Test.YtmnocohggpmjcaaGreatDoorQfJoint
import Derived.Test.YtmnocohggpmjcaaGreatDoorQgEnds
import Derived.Test.YtmnocohggpmjcaaGreatDoorQlLoop
set_option linter.all false
namespace Go.Pv
open Go Go.RowKit Go.Proofs
section
variable {s : Int} {ls : List Lb} {g : Stg} {b : List Int}
/-- A search that is complete. -/
structure Srch (s : Int) (ls : List Lb) (g : Stg) (Q : Dst) : Prop where
  nd : (Q.map Prod.fst).Nodup
  pose : ∀ x ∈ Q, poseG ls x.1 = true
  fine : ∀ x ∈ Q, finG s ls g x.1 = true
  pred : ∀ x ∈ Q, 0 < x.2 → ∃ y, (y, x.2 - 1) ∈ Q ∧ x.1 ∈ nbG s ls g y
  next : ∀ x ∈ Q, ∀ y ∈ nbG s ls g x.1, ∃ e, (y, e) ∈ Q ∧ e ≤ x.2 + 1
end
section
variable {s : Int} {ls : List Lb} {g : Stg} {Q : Dst}
end
end Go.Pv
namespace Go.Pv
open Go Go.RowKit Go.Proofs
set_option maxRecDepth 200000
set_option maxHeartbeats 8000000
end Go.Pv
namespace Go.Pv
open Go Go.RowKit Go.Proofs
set_option maxRecDepth 10000
set_option maxHeartbeats 4000000
end Go.Pv
