/- Contracts: a pose after a turn, the program's and the reference's. -/
import Derived.Test.YtmnocohggpmjcaaGreatDoorQmLists
import Derived.Test.YtmnocohggpmjcaaGreatDoorQlTop
import Derived.Test.YtmnocohggpmjcaaGreatDoorQoFine
set_option linter.all false
namespace Go.Pv
open Go Go.RowKit Go.Proofs
set_option maxRecDepth 10000
set_option maxHeartbeats 4000000
/-- A pose after a turn. -/
def trnG (l : List Int) (t : Int × Int) : List Int := l.set t.1.toNat (l.getD t.1.toNat 0 + t.2)
end Go.Pv
namespace Go.Pv
open Go Go.RowKit Go.Proofs
set_option maxRecDepth 10000
set_option maxHeartbeats 4000000
/-- A figure on its stage, as defined. -/
structure StOk (s : Int) (z zh zr : Z) (ls : List Lb) (g : Stg) : Prop where
  z : zOk z (ls.map encLb) = true
  h : zOk zh (g.hs.map encFld) = true
  r : zOk zr (g.rs.map ii) = true
  f : figB s ls = true
  g : stgG ls g = true
theorem StOk.len {s : Int} {z zh zr : Z} {ls : List Lb} {g : Stg} (H : StOk s z zh zr ls g) : 1 ≤ ls.length ∧ ls.length ≤ 5 := fig_len H.f
def candG (n : Nat) : List (Int × Int) := (List.range n).flatMap fun (i : Nat) => [((i : Int), -1), ((i : Int), 1)]
def okT (s : Int) (ls : List Lb) (g : Stg) (l : List Int) (t : Int × Int) : Bool := poseG ls (trnG l t) && finG s ls g (trnG l t)
/-- The turns after which there is a fine pose, each with that pose. -/
def nextG (s : Int) (ls : List Lb) (g : Stg) (l : List Int) : List ((Int × Int) × List Int) := ((candG ls.length).filter (okT s ls g l)).map fun t => (t, trnG l t)
end Go.Pv
namespace Go.Pv
open Go Go.RowKit Go.Proofs
set_option maxRecDepth 10000
set_option maxHeartbeats 4000000
end Go.Pv
