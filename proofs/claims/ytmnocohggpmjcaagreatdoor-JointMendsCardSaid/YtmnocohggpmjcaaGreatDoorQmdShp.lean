/- The rows of this seat: shapes of lists of lists. -/
import Derived.Test.YtmnocohggpmjcaaGreatDoorQsShp
import Derived.Test.YtmnocohggpmjcaaGreatDoorQmdComb
set_option linter.all false
namespace Go.Pv
open Go Go.RowKit Go.Proofs
set_option maxRecDepth 100000
def issTS : TS := .sl isTS false
theorem iss_of {v : PV} (h : issTS.shp v.cells ∧ v.ag = false) : ∃ (z : Z) (L : List Qi), v = .sl z (L.map encQ) ∧ ((z = .n → L = []) ∧ qsB L = true) := by
  obtain ⟨z, es, hc, hz, _, _, hel⟩ := (show ∃ z es, v.cells = [.sl z es] ∧ (z = .n → es = []) ∧ z ≠ .f ∧ es.length ≤ maxLen ∧ ∀ x ∈ es, isTS.shp x.cells ∧ x.ag = false from h.1)
  obtain ⟨L, rfl⟩ := map_of (g := encQ) fun x hx => by
    obtain ⟨z, l, e, _⟩ := is_of (hel x hx)
    exact ⟨(z, l), e⟩
  refine ⟨z, L, one_of hc h.2, fun e => List.map_eq_nil_iff.1 (hz e), List.all_eq_true.2 fun q hq => ?_⟩
  obtain ⟨z, l, e, hzo⟩ := is_of (hel _ (List.mem_map_of_mem hq))
  have h2 : PV.sl q.1 (q.2.map ii) = PV.sl z (l.map ii) := e
  rw [PV.sl.injEq] at h2
  rw [h2.1, h2.2]; exact hzo
end Go.Pv
