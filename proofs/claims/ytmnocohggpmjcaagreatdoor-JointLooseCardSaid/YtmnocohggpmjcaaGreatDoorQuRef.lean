/- Contracts: whether a pose surely is held, and a proof: the reference's. -/
import Derived.Test.YtmnocohggpmjcaaGreatDoorQuProof
import Derived.Test.YtmnocohggpmjcaaGreatDoorQuTruths
import Derived.Test.YtmnocohggpmjcaaGreatDoorQgEnds
import Derived.Test.YtmnocohggpmjcaaGreatDoorQtA
set_option linter.all false
namespace Go.Pv
open Go Go.RowKit Go.Proofs
set_option maxRecDepth 10000
set_option maxHeartbeats 4000000
end Go.Pv
namespace Go.Pv
open Go Go.RowKit Go.Proofs
set_option maxRecDepth 10000
set_option maxHeartbeats 4000000
def c55 : List PV → List Box → Option (PRes × List Box)
  | [v, w, p], sg => match decFig v, decStg w, decIs1 p with
    | some (s, ls), some g, some ps => some (.ret (sureR s ls g ps), sg)
    | _, _, _ => none
  | _, _ => none
theorem c55_ok : ConOk Tryz.prog 55 c55 := ConOk.of0 (ent Tryz.func55 rfl) fun args sg r sg' h => by
  unfold c55 at h
  split at h <;> try (cases h; done)
  split at h <;> cases h
  rename_i h1 h2 h3
  obtain ⟨z, rfl, hz⟩ := decFig_inv h1
  obtain ⟨zh, zr, rfl, hh, hr⟩ := decStg_inv h2
  obtain ⟨zp, rfl, hp⟩ := decIs1_inv h3
  exact ⟨_, rfl, rfl, by rw [ltBL_cons, ltB_fig, ltBL_cons, ltB_stg, ltBL_cons, ltB_isl]; rfl, Sure_55 _ _ _ _ _ _ _ _ (zOk_n' hz) hh hr (zOk_n' hp)⟩
def c56 : List PV → List Box → Option (PRes × List Box)
  | [v, w, p], sg => match decFig v, decStg w, decIs1 p with
    | some (s, ls), some g, some ps => some (.ret (proofR s ls g ps), sg)
    | _, _, _ => none
  | _, _ => none
theorem c56_ok : ConOk Tryz.prog 56 c56 := ConOk.of0 (ent Tryz.func56 rfl) fun args sg r sg' h => by
  unfold c56 at h
  split at h <;> try (cases h; done)
  split at h <;> cases h
  rename_i h1 h2 h3
  obtain ⟨z, rfl, hz⟩ := decFig_inv h1
  obtain ⟨zh, zr, rfl, hh, hr⟩ := decStg_inv h2
  obtain ⟨zp, rfl, hp⟩ := decIs1_inv h3
  exact ⟨_, rfl, rfl, by rw [ltBL_cons, ltB_fig, ltBL_cons, ltB_stg, ltBL_cons, ltB_isl]; rfl, Proof_56 _ _ _ _ _ _ _ _ (zOk_n' hz) hh hr (zOk_n' hp)⟩
end Go.Pv
