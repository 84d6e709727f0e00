/- Contracts: fields and stages, in the program and in its reference. -/
import Derived.Test.YtmnocohggpmjcaaGreatDoorQgEnds
set_option linter.all false
namespace Go.Pv
open Go Go.RowKit Go.Proofs
set_option maxRecDepth 10000
set_option maxHeartbeats 4000000
def fldB (f : Fld) : Bool := inB f.a (-1000) f.b && decide (f.b ≤ 1000) && inB f.c (-1000) f.d && decide (f.d ≤ 1000)
/-- A stage. -/
structure Stg where
  e : Fld
  hs : List Fld
  rs : List Int
def stgG (ls : List Lb) (g : Stg) : Bool :=
  match g.hs, g.rs with
  | [h0, h1], [r0, r1] => fldB g.e && fldB h0 && fldB h1 && limbG ls r0 && limbG ls r1 && (r0 != r1)
  | _, _ => false
end Go.Pv
