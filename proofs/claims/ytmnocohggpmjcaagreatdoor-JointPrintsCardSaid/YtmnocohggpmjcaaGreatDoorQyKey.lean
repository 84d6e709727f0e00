/- Contracts: a pose as a key of a map; what is found in a map by such keys; rows that may be nil, frozen. -/
import Derived.Test.YtmnocohggpmjcaaGreatDoorQyTurn
import Derived.Test.YtmnocohggpmjcaaGreatDoorQgEnds
set_option linter.all false
namespace Go.Pv
open Go Go.RowKit Go.Proofs
set_option maxRecDepth 10000
set_option maxHeartbeats 4000000
section
variable {α : Type} (f : α → List Int)
end
/-- A row that may be nil is frozen; the temporary is its slice from now on. -/
theorem RunQ.freezeZ {P : Program} {c : Code} {Q : Out → St → Prop} (t id : Nat) {tm tm' : List (Nat × PV)} {n m k : Nat} {e : TypeId} {sg sg' : List Box} {z : Bool} {es : List PV} (h : getT tm t = some (.ms id m)) (hb : sg[id]? = some (.row z e k es false))
    (hm : es.length = m) (hc : closedL es = true) (e1 : sg.set id (.row z e k es true) = sg') (e2 : putT tm t (.sl (if z = true then .n else .a) es) = tm') (hq : RunQ P c ⟨tm', n, sg'⟩ Q) : RunQ P c ⟨tm, n, sg⟩ Q := by
  have hrows : rowsOf sg [id] = sg' := by
    unfold rowsOf
    simp only [hb, rowsOf]
    rw [frzL_closed (n := 4) (flat es) sg (closedL_flat es hc)]
    simp only [regroup_self]
    exact e1
  have hid : sg'[id]? = some (.row z e k es true) := by
    rw [← e1]
    exact List.getElem?_set_self (List.getElem?_eq_some_iff.1 hb).1
  have hv : viewV sg' (.ms id m) = some (.sl (if z = true then .n else .a) es) := by
    show view1 sg' (.ms id m) = _
    unfold view1
    simp [hid, hm]
  have g1 : Ghost ⟨tm, n, sg⟩ ⟨tm, n, sg'⟩ := by
    have := Ghost.rows [id] sg ⟨tm, n, sg⟩ rfl
    rw [hrows] at this
    exact this
  have g2 : Ghost ⟨tm, n, sg'⟩ ⟨tm', n, sg'⟩ := by
    have := Ghost.view (n := n) (sg := sg') h hv
    rw [e2] at this
    exact this
  exact RunQ.pre (g1.trans g2) hq
end Go.Pv
