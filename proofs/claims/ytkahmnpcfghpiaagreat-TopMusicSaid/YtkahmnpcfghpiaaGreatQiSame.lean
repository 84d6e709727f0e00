import Derived.Test.YtkahmnpcfghpiaaGreatQiWays
import Derived.Test.YtkahmnpcfghpiaaGreatQgPlays
set_option linter.all false
namespace Go.Pv
open Go Go.RowKit Go.Proofs
set_option maxRecDepth 200000
set_option maxHeartbeats 8000000
theorem plZ_n{l:List (List Int)}(h:plZ l=.n):l=[]:=by
 unfold plZ at h;split at h
 ·rename_i hd
  exact Ew.1 (Eu hd)
 ·cases h
end Go.Pv
