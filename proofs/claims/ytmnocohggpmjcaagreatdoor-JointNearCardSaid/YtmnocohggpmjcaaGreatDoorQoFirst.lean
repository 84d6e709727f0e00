/- Contracts as tables: whether a pose is fine, the first fine pose. -/
import Derived.Test.YtmnocohggpmjcaaGreatDoorQoFine
import Derived.Test.YtmnocohggpmjcaaGreatDoorQgEnds
set_option linter.all false
namespace Go.Pv
open Go Go.RowKit Go.Proofs
set_option maxRecDepth 10000
set_option maxHeartbeats 4000000
def c70 : List PV → List Box → Option (PRes × List Box)
  | [v, w, p], sg => match decFig v, decStg w, decIs1 p with
    | some (s, ls), some g, some ps => some (.ret (fineR s ls g ps), sg)
    | _, _, _ => none
  | _, _ => none
theorem c70_ok : ConOk Tryz.prog 70 c70 := ConOk.of0 (ent Tryz.func70 rfl) fun args sg r sg' h => by
  unfold c70 at h
  split at h <;> try (cases h; done)
  split at h <;> cases h
  rename_i h1 h2 h3
  obtain ⟨z, rfl, hz⟩ := decFig_inv h1
  obtain ⟨zh, zr, rfl, hh, hr⟩ := decStg_inv h2
  obtain ⟨zp, rfl, hp⟩ := decIs1_inv h3
  exact ⟨_, rfl, rfl, by rw [ltBL_cons, ltB_fig, ltBL_cons, ltB_stg, ltBL_cons, ltB_isl]; rfl, Fine_70 _ _ _ _ _ _ _ _ (zOk_n' hz) hh hr (zOk_n' hp)⟩
end Go.Pv
