/- The rows of this seat: shapes of stages. -/
import Derived.Test.YtmnocohggpmjcaaGreatDoorQrShp
import Derived.Test.YtmnocohggpmjcaaGreatDoorQnA
set_option linter.all false
namespace Go.Pv
open Go Go.RowKit Go.Proofs
set_option maxRecDepth 100000
def spTS : TS := .st [intTS, intTS]
def fldTS : TS := .st [spTS, spTS]
def stgTS : TS := .st [fldTS, .sl fldTS true, .sl intTS false]
theorem shp_sp {cs : List PV} (h : spTS.shp cs) : ∃ a b, cs = [ii a, ii b] := by
  obtain ⟨a, r1, e1, ha, hr1⟩ := (show ∃ a b, cs = a ++ b ∧ intTS.shp a ∧ shpL [intTS] b from h)
  obtain ⟨b, r2, e2, hb, hr2⟩ := (show ∃ a b, r1 = a ++ b ∧ intTS.shp a ∧ shpL [] b from hr1)
  obtain rfl : r2 = [] := hr2
  obtain ⟨x1, rfl⟩ := shp_int ha
  obtain ⟨x2, rfl⟩ := shp_int hb
  subst e2; subst e1
  exact ⟨x1, x2, rfl⟩
theorem shp_fld {cs : List PV} (h : fldTS.shp cs) : ∃ f : Fld, cs = [ii f.a, ii f.b, ii f.c, ii f.d] := by
  obtain ⟨a, r1, e1, ha, hr1⟩ := (show ∃ a b, cs = a ++ b ∧ spTS.shp a ∧ shpL [spTS] b from h)
  obtain ⟨b, r2, e2, hb, hr2⟩ := (show ∃ a b, r1 = a ++ b ∧ spTS.shp a ∧ shpL [] b from hr1)
  obtain rfl : r2 = [] := hr2
  obtain ⟨x1, x2, rfl⟩ := shp_sp ha
  obtain ⟨x3, x4, rfl⟩ := shp_sp hb
  subst e2; subst e1
  exact ⟨⟨x1, x2, x3, x4⟩, rfl⟩
theorem fld_of {v : PV} (h : fldTS.shp v.cells ∧ v.ag = true) : ∃ f, v = encFld f := by
  obtain ⟨f, hf⟩ := shp_fld h.1
  exact ⟨f, agg_of hf h.2⟩
theorem stg_of {v : PV} (h : stgTS.shp v.cells ∧ v.ag = true) : ∃ (zh zr : Z) (g : Stg), v = encStg zh zr g ∧ zOk zh (g.hs.map encFld) = true ∧ zOk zr (g.rs.map ii) = true := by
  obtain ⟨a, r1, e1, ha, hr1⟩ := (show ∃ a b, v.cells = a ++ b ∧ fldTS.shp a ∧ shpL [.sl fldTS true, .sl intTS false] b from h.1)
  obtain ⟨b, r2, e2, hb, hr2⟩ := (show ∃ a b, r1 = a ++ b ∧ (TS.sl fldTS true).shp a ∧ shpL [.sl intTS false] b from hr1)
  obtain ⟨c, r3, e3, hc, hr3⟩ := (show ∃ a b, r2 = a ++ b ∧ (TS.sl intTS false).shp a ∧ shpL [] b from hr2)
  obtain rfl : r3 = [] := hr3
  obtain ⟨e, rfl⟩ := shp_fld ha
  obtain ⟨zh, hs, rfl, hzh, _, _, helh⟩ := (show ∃ z es, b = [.sl z es] ∧ (z = .n → es = []) ∧ z ≠ .f ∧ es.length ≤ maxLen ∧ ∀ x ∈ es, fldTS.shp x.cells ∧ x.ag = true from hb)
  obtain ⟨zr, rs, rfl, hzr, _, _, helr⟩ := (show ∃ z es, c = [.sl z es] ∧ (z = .n → es = []) ∧ z ≠ .f ∧ es.length ≤ maxLen ∧ ∀ x ∈ es, intTS.shp x.cells ∧ x.ag = false from hc)
  obtain ⟨hs, rfl⟩ := map_of (g := encFld) fun x hx => fld_of (helh x hx)
  obtain ⟨rs, rfl⟩ := map_of (g := ii) fun x hx => int_of (helr x hx)
  subst e3; subst e2
  refine ⟨zh, zr, ⟨e, hs, rs⟩, agg_of e1 h.2, ?_, ?_⟩
  · cases zh
    · have := hzh rfl
      show zOk .n (hs.map encFld) = true
      rw [this]; rfl
    · rfl
    · rfl
  · cases zr
    · have := hzr rfl
      show zOk .n (rs.map ii) = true
      rw [this]; rfl
    · rfl
    · rfl
end Go.Pv
