/- The rows of this seat: shapes of strings. -/
import Derived.Test.YtkjalecddameoaaGreatDoorQfLem
set_option linter.all false
namespace Go.Pv
open Go Go.RowKit Go.Proofs
set_option maxRecDepth 100000
def strTS:TS:=.str
theorem str_of {v:PV} (h:strTS.shp v.cells∧v.ag = false):∃ s:List UInt8,v = .str s∧s.length ≤ maxLen:=by
 obtain ⟨s,hc,hl⟩:=(show ∃ s,v.cells = [.str s]∧s.length ≤ maxLen from h.1)
 exact ⟨s,one_of hc h.2,hl⟩
end Go.Pv
