/- Ways in plain terms: the way has as many turns as are told; in a wider stage it is no longer; the way back is as long. -/
import Derived.Test.YtmnocohggpmjcaaGreatDoorQyRPath
import Derived.Test.YtmnocohggpmjcaaGreatDoorQpHands
import Derived.Test.YtmnocohggpmjcaaGreatDoorQzMend
import Derived.Test.YtmnocohggpmjcaaGreatDoorQfJoint
import Derived.Test.YtmnocohggpmjcaaGreatDoorQuRef
set_option linter.all false
namespace Go.Pv
open Go Go.RowKit Go.Proofs
section
variable {s : Int} {ls : List Lb} {g : Stg} {b : List Int}
end
section
variable {s : Int} {ls : List Lb} {g : Stg} {Q : Dst}
end
end Go.Pv
namespace Go.Pv
open Go Go.RowKit Go.Proofs
set_option maxRecDepth 200000
set_option maxHeartbeats 8000000
def c63 : List PV → List Box → Option (PRes × List Box)
  | [v, p], sg => match decFig v, decIs1 p with
    | some (_, ls), some l => if ls.length ≤ maxLen ∧ l.length ≤ 1000000 then some (.ret (.bool (jntG ls l)), sg) else none
    | _, _ => none
  | _, _ => none
theorem c63_ok : ConOk Tryz.prog 63 c63 := ConOk.of0 (ent Tryz.func63 rfl) fun args sg r sg' h => by
  unfold c63 at h
  split at h <;> try (cases h; done)
  split at h <;> try (cases h; done)
  rename_i h1 h2
  split at h <;> cases h
  rename_i hc
  obtain ⟨z, rfl, hz⟩ := decFig_inv h1
  obtain ⟨zp, rfl, hp⟩ := decIs1_inv h2
  exact ⟨_, rfl, rfl, by rw [ltBL_cons, ltB_fig, ltBL_cons, ltB_isl]; rfl, Joints_63 _ _ _ _ _ (zOk_n' hz) (zOk_n' hp) hc.1 hc.2⟩
def c65 : List PV → List Box → Option (PRes × List Box)
  | [v, p], sg => match decFig v, decIs1 p with
    | some (s, ls), some l => if ls ≠ [] ∧ ls.length ≤ 1000 ∧ l.length ≤ 1000000 ∧ jntG ls l = true then some (.ret (.agg [ii s, .sl .a ((menG ls l).map encLb)]), sg) else none
    | _, _ => none
  | _, _ => none
theorem c65_ok : ConOk Tryz.prog 65 c65 := ConOk.of0 (ent Tryz.func65 rfl) fun args sg r sg' h => by
  unfold c65 at h
  split at h <;> try (cases h; done)
  split at h <;> try (cases h; done)
  rename_i h1 h2
  split at h <;> cases h
  rename_i hc
  obtain ⟨z, rfl, hz⟩ := decFig_inv h1
  obtain ⟨zp, rfl, hp⟩ := decIs1_inv h2
  exact ⟨_, rfl, rfl, by rw [ltBL_cons, ltB_fig, ltBL_cons, ltB_isl]; rfl, Mended_65 _ _ _ _ _ (zOk_n' hz) (zOk_n' hp) hc.1 hc.2.1 hc.2.2.1 (jnt_limb hc.2.2.2)⟩
end Go.Pv
