/- Contracts as tables: whether a pose is fine, the first fine pose. -/
import Derived.Test.YtmnocohggpmjcaaGreatDoorQoFine
import Derived.Test.YtmnocohggpmjcaaGreatDoorQgEnds
set_option linter.all false
namespace Go.Pv
open Go Go.RowKit Go.Proofs
set_option maxRecDepth 10000
set_option maxHeartbeats 4000000
def c52 : List PV → List Box → Option (PRes × List Box)
  | [v, w], sg => match decFig v, decStg w with
    | some (s, ls), some g => some (.ret (firstR s ls g), sg)
    | _, _ => none
  | _, _ => none
theorem c52_ok : ConOk Tryz.prog 52 c52 := ConOk.of0 (ent Tryz.func52 rfl) fun args sg r sg' h => by
  unfold c52 at h
  split at h <;> try (cases h; done)
  split at h <;> cases h
  rename_i h1 h2
  obtain ⟨z, rfl, hz⟩ := decFig_inv h1
  obtain ⟨zh, zr, rfl, hh, hr⟩ := decStg_inv h2
  exact ⟨_, rfl, rfl, by rw [ltBL_cons, ltB_fig, ltBL_cons, ltB_stg]; rfl, First_52 _ _ _ _ _ _ (zOk_n' hz) hh hr⟩
theorem firstR_of {s : Int} {ls : List Lb} {g : Stg} (hf : figB s ls = true) (hg : stgG ls g = true) :
    (finesG s ls g = [] ∧ firstR s ls g = .tuple [.sl .n [], ii 0, ii 5]) ∨ ∃ z l r, finesG s ls g = l :: r ∧ zOk z (l.map ii) = true ∧ firstR s ls g = .tuple [.sl z (l.map ii), ii ((r.length : Int) + 1), ii 0] := by
  unfold firstR
  rw [if_pos ⟨hf, hg⟩]
  cases h : finesG s ls g with
  | nil => exact .inl ⟨rfl, rfl⟩
  | cons l r =>
    obtain ⟨z, hz, hk⟩ := pvL_z l
    exact .inr ⟨z, l, r, rfl, hk, by show PV.tuple [pvL l, ii ((r.length : Int) + 1), ii 0] = _; rw [hz]⟩
end Go.Pv
