/- The pure-value layer, part 45: the library's SortFunc at a row of one's own of pairs of numbers: a contract, out of a contract of the function that compares. -/
import Derived.Shelf.SlSortCmp.NoneTotal
import Derived.Test.YtmnocohggpmjcaaGreatDoorQlMono
import Derived.Test.YtmnocohggpmjcaaGreatDoorQcEval
set_option linter.all false
namespace Go.Pv
open Go Go.RowKit Go.Proofs Go.Shelf Go.Sort
/-- A pair of numbers of 64 bits. -/
structure PP where
  x : Int
  y : Int
  hx : (Lit.int .i64 x).wf = true
  hy : (Lit.int .i64 y).wf = true
instance : Inhabited PP := ⟨⟨0, 0, rfl, rfl⟩⟩
def PP.pv (p : PP) : PV := .agg [.int .i64 p.x, .int .i64 p.y]
def PP.vs (p : PP) : List Value := [.int .i64 p.x, .int .i64 p.y]
theorem PP.ext {a b : PP} (h1 : a.x = b.x) (h2 : a.y = b.y) : a = b := by
  cases a; cases b; cases h1; cases h2; rfl
variable {P : Program}
end Go.Pv
