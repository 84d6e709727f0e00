/- Ways between fine poses, in plain terms: as long there as back; no way is shorter than the one that is told, nor as long and sooner. -/
import Derived.Test.YtmnocohggpmjcaaGreatDoorQyRPath
import Derived.Test.YtmnocohggpmjcaaGreatDoorQpHands
set_option linter.all false
namespace Go.Pv
open Go Go.RowKit Go.Proofs
section
variable {s : Int} {ls : List Lb} {g : Stg}
variable {b : List Int}
/-- A complete search from a pose. -/
structure SrchB (s : Int) (ls : List Lb) (g : Stg) (b : List Int) (Q : Dst) : Prop where
  srch : Srch s ls g Q
  zero : ∀ x ∈ Q, x.2 = 0 → x.1 = b
  start : (b, 0) ∈ Q
  bd : ∀ l, 0 ≤ dG Q l
section
variable {Q : Dst}
end
end
section
variable {s : Int} {ls : List Lb} {g : Stg} {b : List Int}
end
end Go.Pv
