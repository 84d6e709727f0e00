/- Contracts: a pose after a turn, the program's and the reference's. -/
import Derived.Test.YtmnocohggpmjcaaGreatDoorQmLists
import Derived.Test.YtmnocohggpmjcaaGreatDoorQlTop
import Derived.Test.YtmnocohggpmjcaaGreatDoorQnC
set_option linter.all false
namespace Go.Pv
open Go Go.RowKit Go.Proofs
set_option maxRecDepth 10000
set_option maxHeartbeats 4000000
end Go.Pv
namespace Go.Pv
open Go Go.RowKit Go.Proofs
set_option maxRecDepth 10000
set_option maxHeartbeats 4000000
/-- A figure on its stage, as defined. -/
structure StOk (s : Int) (z zh zr : Z) (ls : List Lb) (g : Stg) : Prop where
  z : zOk z (ls.map encLb) = true
  h : zOk zh (g.hs.map encFld) = true
  r : zOk zr (g.rs.map ii) = true
  f : figB s ls = true
  g : stgG ls g = true
theorem StOk.len {s : Int} {z zh zr : Z} {ls : List Lb} {g : Stg} (H : StOk s z zh zr ls g) : 1 ≤ ls.length ∧ ls.length ≤ 5 := fig_len H.f
end Go.Pv
