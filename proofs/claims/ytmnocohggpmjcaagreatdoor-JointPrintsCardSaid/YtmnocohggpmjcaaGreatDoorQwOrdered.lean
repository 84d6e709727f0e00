/- Lists of places in order, each once: what is put in one after the other is what is sorted. In plain terms, no program in sight. -/
import Derived.Test.YtmnocohggpmjcaaGreatDoorQlSort
import Derived.Test.YtmnocohggpmjcaaGreatDoorQgEnds
import Derived.Test.YtmnocohggpmjcaaGreatDoorQdWalk
import Derived.Shelf.SlSortCmp.NoneTotal
import Derived.Test.YtmnocohggpmjcaaGreatDoorProg
import Derived.Test.YtmnocohggpmjcaaGreatDoorQfJoint
import Derived.Test.YtmnocohggpmjcaaGreatDoorQnC
import Derived.Test.YtmnocohggpmjcaaGreatDoorQmLists
import Derived.Test.YtmnocohggpmjcaaGreatDoorQlLoop
set_option linter.all false
namespace Go.Pv
end Go.Pv
namespace Go.Pv
open Go Go.Sort Go.Shelf Go.Proofs
end Go.Pv
namespace Go.Pv
open Go Go.RowKit Go.Proofs
set_option maxRecDepth 10000
set_option maxHeartbeats 4000000
end Go.Pv
namespace Go.Proofs
open Go.Shelf
end Go.Proofs
namespace Go.Pv
open Go Go.RowKit Go.Proofs
set_option maxRecDepth 10000
set_option maxHeartbeats 4000000
open Classical in
/-- The table with one call more, at these arguments alone. -/
noncomputable def cfAt (cf : CallF) (g : FuncId) (args : List PV) (v : PV) : CallF := fun g1 a1 s1 => if g1 = g ∧ a1 = args then some (.ret v, s1) else cf g1 a1 s1
theorem cfAt_ok {P : Program} {cf : CallF} (h : CallFOk P cf) {g : FuncId} {args : List PV} {v : PV} (he : Enters P g) (hc : CallOk P g args [] (.ret v) []) (hl : ltBL 0 args = true) : CallFOk P (cfAt cf g args v) := by
  intro f a s r1 s1 e
  unfold cfAt at e
  split at e
  · rename_i hh
    obtain ⟨rfl, rfl⟩ := hh
    cases e
    exact ⟨he, hc.frame (lt_of_ltBL 0 _ hl) _, SameLoops.refl _⟩
  · exact h _ _ _ _ _ e
end Go.Pv
