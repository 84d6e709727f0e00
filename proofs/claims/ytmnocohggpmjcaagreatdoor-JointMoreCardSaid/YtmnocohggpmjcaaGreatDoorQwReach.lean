/- Contracts: where the end of a limb can be: Reach. -/
import Derived.Test.YtmnocohggpmjcaaGreatDoorQwOrdered
import Derived.Test.YtmnocohggpmjcaaGreatDoorQoFine
set_option linter.all false
namespace Go.Pv
open Go Go.RowKit Go.Proofs
set_option maxRecDepth 10000
set_option maxHeartbeats 4000000
theorem limb_in {ls : List Lb} {n : Int} (h : limbG ls n = true) : 0 ≤ n ∧ n < ls.length := by
  unfold limbG at h
  simp [inB] at h; omega
theorem args_closed (s : Int) (z : Z) (ls : List Lb) (sp : List (Int × Int)) (n : Int) : closedL [.agg [ii s, .sl z (ls.map encLb)], .fn (.func 166) [] [spP .a sp], ii n] = true := by
  have e1 : (PV.agg [ii s, .sl z (ls.map encLb)]).closed = true := by
    show closedL [ii s, .sl z (ls.map encLb)] = true
    simp [closedL, PV.closed, closedL_lbs]
  have e2 : (PV.fn (.func 166) [] [spP .a sp]).closed = true := by
    show (closedL [] && closedL [spP .a sp]) = true
    simp only [closedL, spPc sp]
    rfl
  simp only [closedL, e1, e2]
  rfl
def cfOf : CallF := cfAdd (cfAdd (cfAdd (cfAdd cf0 85 c85) 88 c88) 86 c86) 90 c90
theorem cfOf_ok : CallFOk Tryz.prog cfOf := cfAdd_ok (cfAdd_ok (cfAdd_ok (cfAdd_ok cf0_ok c85_ok) c88_ok) c86_ok) c90_ok
end Go.Pv
