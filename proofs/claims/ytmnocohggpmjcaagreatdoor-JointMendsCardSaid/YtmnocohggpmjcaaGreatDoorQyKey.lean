/- Contracts: a pose as a key of a map; what is found in a map by such keys; rows that may be nil, frozen. -/
import Derived.Test.YtmnocohggpmjcaaGreatDoorQyTurn
import Derived.Test.YtmnocohggpmjcaaGreatDoorQgEnds
import Derived.Test.YtmnocohggpmjcaaGreatDoorQoFine
set_option linter.all false
namespace Go.Pv
open Go Go.RowKit Go.Proofs
set_option maxRecDepth 10000
set_option maxHeartbeats 4000000
section
variable {α : Type} (f : α → List Int)
end
end Go.Pv
namespace Go.Pv
section
variable {α : Type} [DecidableEq α] (nb : α → List α)
def hasK (Q : List (α × Nat)) (y : α) : Bool := Q.any fun p => decide (p.1 = y)
variable {nb} {Q Q0 : List (α × Nat)} {d : Nat}
end
end Go.Pv
namespace Go.Pv
open Go Go.RowKit Go.Proofs
def nbG (s : Int) (ls : List Lb) (g : Stg) (l : List Int) : List (List Int) := (nextG s ls g l).map Prod.snd
abbrev Dst := List (List Int × Nat)
section
variable {s : Int} {ls : List Lb} {g : Stg} {f : List Int}
end
end Go.Pv
