/- The plain law of two hands: whichever hand is named first; wider fields; the first fine pose. No program in sight. -/
import Derived.Test.YtmnocohggpmjcaaGreatDoorQoFine
set_option linter.all false
namespace Go.Pv
theorem fldB_iff (f : Fld) : fldB f = true ↔ (-1000 ≤ f.a ∧ f.a ≤ f.b ∧ f.b ≤ 1000 ∧ -1000 ≤ f.c ∧ f.c ≤ f.d ∧ f.d ≤ 1000) := by
  simp only [fldB, inB, Bool.and_eq_true, decide_eq_true_eq]
  omega
theorem lieG_iff (p : Pl) (f : Fld) : lieG p f = true ↔ (f.a ≤ p.1 ∧ p.1 ≤ f.b ∧ f.c ≤ p.2 ∧ p.2 ≤ f.d) := by
  simp only [lieG, inB, Bool.and_eq_true, decide_eq_true_eq]
  omega
theorem lie_wid {p : Pl} {f : Fld} {w : Int} (hf : fldB f = true) (hw : 0 ≤ w) (h : lieG p f = true) : lieG p (widG f w) = true := by
  rw [fldB_iff] at hf
  rw [lieG_iff] at h ⊢
  simp only [widG]
  omega
theorem fld_wid {f : Fld} {w : Int} (hf : fldB f = true) (hw : 0 ≤ w) : fldB (widG f w) = true := by
  rw [fldB_iff] at hf ⊢
  simp only [widG]
  omega
end Go.Pv
