/- Contracts: what is staged, what is right, wider fields, which pose comes first, whether a pose is fine. -/
import Derived.Test.YtmnocohggpmjcaaGreatDoorQnA
import Derived.Test.YtmnocohggpmjcaaGreatDoorQhFine
import Derived.Test.YtmnocohggpmjcaaGreatDoorQgEnds
set_option linter.all false
namespace Go.Pv
open Go Go.RowKit Go.Proofs
set_option maxRecDepth 10000
set_option maxHeartbeats 4000000
theorem mx (n : Int) : (if n > -1000 then n else -1000) = max (-1000) n := by omega
end Go.Pv
namespace Go.Pv
open Go Go.RowKit Go.Proofs
set_option maxRecDepth 10000
set_option maxHeartbeats 4000000
/-- What a right stage has. -/
structure StgIn (s : Int) (ls : List Lb) (g : Stg) (h0 h1 : Fld) (r0 r1 : Int) : Prop where
  hs : g.hs = [h0, h1]
  rs : g.rs = [r0, r1]
  e : fldB g.e = true
  a : fldB h0 = true
  b : fldB h1 = true
  l0 : 0 ≤ r0 ∧ r0 < ls.length
  l1 : 0 ≤ r1 ∧ r1 < ls.length
  ne : r0 ≠ r1
theorem fig_len {s : Int} {ls : List Lb} (hf : figB s ls = true) : 1 ≤ ls.length ∧ ls.length ≤ 5 := by
  obtain ⟨_, _, h1, h2, _⟩ := fig_limbs hf
  omega
end Go.Pv
