/- Contracts: fields and stages, in the program and in its reference. -/
import Derived.Test.YtmnocohggpmjcaaGreatDoorQgEnds
set_option linter.all false
namespace Go.Pv
open Go Go.RowKit Go.Proofs
set_option maxRecDepth 10000
set_option maxHeartbeats 4000000
def fldB (f : Fld) : Bool := inB f.a (-1000) f.b && decide (f.b ≤ 1000) && inB f.c (-1000) f.d && decide (f.d ≤ 1000)
theorem fldB_ref (f : Fld) : fldB f = (inB f.a (-1000) 1000 && inB f.b f.a 1000 && inB f.c (-1000) 1000 && inB f.d f.c 1000) := by
  rw [Bool.eq_iff_iff]
  simp [fldB, inB]
  omega
theorem isField_140 (f : Fld) : CallOk Tryz.prog 140 [encFld f] [] (.ret (.bool (fldB f))) [] := by
  refine CallOk.of0 hTT Tryz.func140 rfl rfl ?_
  unfold fldB
  cases a1 : inB f.a (-1000) f.b
  · repeat (first | (with_reducible (first | apply wA | apply wB | apply wC | apply wD | apply wE | apply wF | apply wG | apply wH | apply wI | apply wJ | apply wK | apply wL | apply wM | apply wN | apply wO | apply wP | apply wQ rfl | apply wR | apply wS | apply wT | apply wU)) | ((with_reducible (first | apply wV | apply wW | apply wX | (apply wY [] hTT cfA_ok noM_ok mixed; (focus kernel_rfl)))); (focus (simp only [Tryz.f140, cfA, c128, encFld, a1, go_sem]; with_reducible rfl))) | (with_reducible refine wZ hTT cfA_ok noM_ok ?_) | (with_reducible refine wa ?_; refine And.intro ?_ ?_; (focus kernel_rfl)))
    exact ⟨rfl, rfl, _, rfl, rfl⟩
  by_cases a2 : f.b ≤ 1000
  case neg =>
    repeat (first | (with_reducible (first | apply wA | apply wB | apply wC | apply wD | apply wE | apply wF | apply wG | apply wH | apply wI | apply wJ | apply wK | apply wL | apply wM | apply wN | apply wO | apply wP | apply wQ rfl | apply wR | apply wS | apply wT | apply wU)) | ((with_reducible (first | apply wV | apply wW | apply wX | (apply wY [] hTT cfA_ok noM_ok mixed; (focus kernel_rfl)))); (focus (simp only [Tryz.f140, cfA, c128, encFld, a1, a2, go_sem]; with_reducible rfl))) | (with_reducible refine wZ hTT cfA_ok noM_ok ?_) | (with_reducible refine wa ?_; refine And.intro ?_ ?_; (focus kernel_rfl)))
    exact ⟨rfl, rfl, _, rfl, by simp [a2]; rfl⟩
  cases a3 : inB f.c (-1000) f.d
  · repeat (first | (with_reducible (first | apply wA | apply wB | apply wC | apply wD | apply wE | apply wF | apply wG | apply wH | apply wI | apply wJ | apply wK | apply wL | apply wM | apply wN | apply wO | apply wP | apply wQ rfl | apply wR | apply wS | apply wT | apply wU)) | ((with_reducible (first | apply wV | apply wW | apply wX | (apply wY [] hTT cfA_ok noM_ok mixed; (focus kernel_rfl)))); (focus (simp only [Tryz.f140, cfA, c128, encFld, a1, a2, a3, go_sem]; with_reducible rfl))) | (with_reducible refine wZ hTT cfA_ok noM_ok ?_) | (with_reducible refine wa ?_; refine And.intro ?_ ?_; (focus kernel_rfl)))
    exact ⟨rfl, rfl, _, rfl, by simp; rfl⟩
  by_cases a4 : f.d ≤ 1000
  · repeat (first | (with_reducible (first | apply wA | apply wB | apply wC | apply wD | apply wE | apply wF | apply wG | apply wH | apply wI | apply wJ | apply wK | apply wL | apply wM | apply wN | apply wO | apply wP | apply wQ rfl | apply wR | apply wS | apply wT | apply wU)) | ((with_reducible (first | apply wV | apply wW | apply wX | (apply wY [] hTT cfA_ok noM_ok mixed; (focus kernel_rfl)))); (focus (simp only [Tryz.f140, cfA, c128, encFld, a1, a2, a3, a4, go_sem]; with_reducible rfl))) | (with_reducible refine wZ hTT cfA_ok noM_ok ?_) | (with_reducible refine wa ?_; refine And.intro ?_ ?_; (focus kernel_rfl)))
    exact ⟨rfl, rfl, _, rfl, by simp [a2, a4]; rfl⟩
  · repeat (first | (with_reducible (first | apply wA | apply wB | apply wC | apply wD | apply wE | apply wF | apply wG | apply wH | apply wI | apply wJ | apply wK | apply wL | apply wM | apply wN | apply wO | apply wP | apply wQ rfl | apply wR | apply wS | apply wT | apply wU)) | ((with_reducible (first | apply wV | apply wW | apply wX | (apply wY [] hTT cfA_ok noM_ok mixed; (focus kernel_rfl)))); (focus (simp only [Tryz.f140, cfA, c128, encFld, a1, a2, a3, a4, go_sem]; with_reducible rfl))) | (with_reducible refine wZ hTT cfA_ok noM_ok ?_) | (with_reducible refine wa ?_; refine And.intro ?_ ?_; (focus kernel_rfl)))
    exact ⟨rfl, rfl, _, rfl, by simp [a4]; rfl⟩
theorem Field_146 (f : Fld) : CallOk Tryz.prog 146 [encFld f] [] (.ret (.bool (fldB f))) [] := by
  refine CallOk.of0 hTT Tryz.func146 rfl rfl ?_
  rw [fldB_ref]
  cases a1 : inB f.a (-1000) 1000
  · repeat (first | (with_reducible (first | apply wA | apply wB | apply wC | apply wD | apply wE | apply wF | apply wG | apply wH | apply wI | apply wJ | apply wK | apply wL | apply wM | apply wN | apply wO | apply wP | apply wQ rfl | apply wR | apply wS | apply wT | apply wU)) | ((with_reducible (first | apply wV | apply wW | apply wX | (apply wY [] hTT cfA_ok noM_ok mixed; (focus kernel_rfl)))); (focus (simp only [Tryz.f146, cfA, c128, encFld, a1, go_sem]; with_reducible rfl))) | (with_reducible refine wZ hTT cfA_ok noM_ok ?_) | (with_reducible refine wa ?_; refine And.intro ?_ ?_; (focus kernel_rfl)))
    exact ⟨rfl, rfl, _, rfl, rfl⟩
  cases a2 : inB f.b f.a 1000
  · repeat (first | (with_reducible (first | apply wA | apply wB | apply wC | apply wD | apply wE | apply wF | apply wG | apply wH | apply wI | apply wJ | apply wK | apply wL | apply wM | apply wN | apply wO | apply wP | apply wQ rfl | apply wR | apply wS | apply wT | apply wU)) | ((with_reducible (first | apply wV | apply wW | apply wX | (apply wY [] hTT cfA_ok noM_ok mixed; (focus kernel_rfl)))); (focus (simp only [Tryz.f146, cfA, c128, encFld, a1, a2, go_sem]; with_reducible rfl))) | (with_reducible refine wZ hTT cfA_ok noM_ok ?_) | (with_reducible refine wa ?_; refine And.intro ?_ ?_; (focus kernel_rfl)))
    exact ⟨rfl, rfl, _, rfl, rfl⟩
  cases a3 : inB f.c (-1000) 1000
  · repeat (first | (with_reducible (first | apply wA | apply wB | apply wC | apply wD | apply wE | apply wF | apply wG | apply wH | apply wI | apply wJ | apply wK | apply wL | apply wM | apply wN | apply wO | apply wP | apply wQ rfl | apply wR | apply wS | apply wT | apply wU)) | ((with_reducible (first | apply wV | apply wW | apply wX | (apply wY [] hTT cfA_ok noM_ok mixed; (focus kernel_rfl)))); (focus (simp only [Tryz.f146, cfA, c128, encFld, a1, a2, a3, go_sem]; with_reducible rfl))) | (with_reducible refine wZ hTT cfA_ok noM_ok ?_) | (with_reducible refine wa ?_; refine And.intro ?_ ?_; (focus kernel_rfl)))
    exact ⟨rfl, rfl, _, rfl, rfl⟩
  cases a4 : inB f.d f.c 1000
  · repeat (first | (with_reducible (first | apply wA | apply wB | apply wC | apply wD | apply wE | apply wF | apply wG | apply wH | apply wI | apply wJ | apply wK | apply wL | apply wM | apply wN | apply wO | apply wP | apply wQ rfl | apply wR | apply wS | apply wT | apply wU)) | ((with_reducible (first | apply wV | apply wW | apply wX | (apply wY [] hTT cfA_ok noM_ok mixed; (focus kernel_rfl)))); (focus (simp only [Tryz.f146, cfA, c128, encFld, a1, a2, a3, a4, go_sem]; with_reducible rfl))) | (with_reducible refine wZ hTT cfA_ok noM_ok ?_) | (with_reducible refine wa ?_; refine And.intro ?_ ?_; (focus kernel_rfl)))
    exact ⟨rfl, rfl, _, rfl, rfl⟩
  · repeat (first | (with_reducible (first | apply wA | apply wB | apply wC | apply wD | apply wE | apply wF | apply wG | apply wH | apply wI | apply wJ | apply wK | apply wL | apply wM | apply wN | apply wO | apply wP | apply wQ rfl | apply wR | apply wS | apply wT | apply wU)) | ((with_reducible (first | apply wV | apply wW | apply wX | (apply wY [] hTT cfA_ok noM_ok mixed; (focus kernel_rfl)))); (focus (simp only [Tryz.f146, cfA, c128, encFld, a1, a2, a3, a4, go_sem]; with_reducible rfl))) | (with_reducible refine wZ hTT cfA_ok noM_ok ?_) | (with_reducible refine wa ?_; refine And.intro ?_ ?_; (focus kernel_rfl)))
    exact ⟨rfl, rfl, _, rfl, rfl⟩
def c140 : List PV → List Box → Option (PRes × List Box)
  | [f], sg => match decFld f with
    | some f => some (.ret (.bool (fldB f)), sg)
    | none => none
  | _, _ => none
theorem c140_ok : ConOk Tryz.prog 140 c140 := ConOk.of0 (ent Tryz.func140 rfl) fun args sg r sg' h => by
  unfold c140 at h
  split at h <;> try (cases h; done)
  split at h <;> cases h
  rename_i hf
  obtain rfl := decFld_inv _ _ hf
  exact ⟨_, rfl, rfl, rfl, isField_140 _⟩
theorem c146_ok : ConOk Tryz.prog 146 c140 := ConOk.of0 (ent Tryz.func146 rfl) fun args sg r sg' h => by
  unfold c140 at h
  split at h <;> try (cases h; done)
  split at h <;> cases h
  rename_i hf
  obtain rfl := decFld_inv _ _ hf
  exact ⟨_, rfl, rfl, rfl, Field_146 _⟩
def cfS : CallF := cfAdd (cfAdd (cfAdd (cfAdd (cfAdd cfA 140 c140) 146 c140) 88 c88) 28 c88) 25 c25
theorem cfS_ok : CallFOk Tryz.prog cfS := cfAdd_ok (cfAdd_ok (cfAdd_ok (cfAdd_ok (cfAdd_ok cfA_ok c140_ok) c146_ok) c88_ok) c28_ok) c25_ok
/-- A stage. -/
structure Stg where
  e : Fld
  hs : List Fld
  rs : List Int
def encStg (zh zr : Z) (g : Stg) : PV := .agg [ii g.e.a, ii g.e.b, ii g.e.c, ii g.e.d, .sl zh (g.hs.map encFld), .sl zr (g.rs.map ii)]
def stgG (ls : List Lb) (g : Stg) : Bool :=
  match g.hs, g.rs with
  | [h0, h1], [r0, r1] => fldB g.e && fldB h0 && fldB h1 && limbG ls r0 && limbG ls r1 && (r0 != r1)
  | _, _ => false
theorem two_of {α : Type} {l : List α} (h : l.length = 2) : ∃ a b, l = [a, b] := by
  match l, h with
  | [a, b], _ => exact ⟨a, b, rfl⟩
theorem stgG_hs {ls : List Lb} {g : Stg} (h : g.hs.length ≠ 2) : stgG ls g = false := by
  unfold stgG
  split
  · rename_i h1 h2; rw [h1] at h; exact absurd rfl h
  · rfl
theorem stgG_rs {ls : List Lb} {g : Stg} (h : g.rs.length ≠ 2) : stgG ls g = false := by
  unfold stgG
  split
  · rename_i h1 h2; rw [h2] at h; exact absurd rfl h
  · rfl
theorem stgG_e {ls : List Lb} {g : Stg} (h : fldB g.e = false) : stgG ls g = false := by
  unfold stgG
  split
  · simp [h]
  · rfl
theorem neq2 {n : Nat} (h : n ≠ 2) : ((n : Int) == 2) = false := by simp; omega
theorem isStage_96 (s : Int) (z zh zr : Z) (ls : List Lb) (g : Stg) (hzo : zOk z (ls.map encLb) = true) (hh : zOk zh (g.hs.map encFld) = true) (hr : zOk zr (g.rs.map ii) = true) (hs : ls.length ≤ maxLen) :
    CallOk Tryz.prog 96 [.agg [ii s, .sl z (ls.map encLb)], encStg zh zr g] [] (.ret (.bool (stgG ls g))) [] := by
  refine CallOk.of0 hTT Tryz.func96 rfl rfl ?_
  have hd := decFig_enc s z ls hzo
  unfold encStg
  cases a0 : fldB g.e
  · rw [stgG_e a0]
    have a0' : fldB ⟨g.e.a, g.e.b, g.e.c, g.e.d⟩ = false := a0
    repeat (first | (with_reducible (first | apply wA | apply wB | apply wC | apply wD | apply wE | apply wF | apply wG | apply wH | apply wI | apply wJ | apply wK | apply wL | apply wM | apply wN | apply wO | apply wP | apply wQ rfl | apply wR | apply wS | apply wT | apply wU)) | ((with_reducible (first | apply wV | apply wW | apply wX | (apply wY [] hTT cfS_ok noM_ok mixed; (focus kernel_rfl)))); (focus (simp only [Tryz.f96, cfS, c140, decFld, a0', go_sem]; with_reducible rfl))) | (with_reducible refine wZ hTT cfS_ok noM_ok ?_) | (with_reducible refine wa ?_; refine And.intro ?_ ?_; (focus kernel_rfl)))
    exact ⟨rfl, rfl, _, rfl, rfl⟩
  have a0' : fldB ⟨g.e.a, g.e.b, g.e.c, g.e.d⟩ = true := a0
  by_cases b1 : g.hs.length = 2
  case neg =>
    rw [stgG_hs b1]
    have b1' := neq2 b1
    repeat (first | (with_reducible (first | apply wA | apply wB | apply wC | apply wD | apply wE | apply wF | apply wG | apply wH | apply wI | apply wJ | apply wK | apply wL | apply wM | apply wN | apply wO | apply wP | apply wQ rfl | apply wR | apply wS | apply wT | apply wU)) | ((with_reducible (first | apply wV | apply wW | apply wX | (apply wY [] hTT cfS_ok noM_ok mixed; (focus kernel_rfl)))); (focus (simp only [Tryz.f96, cfS, c140, decFld, a0', b1', go_sem]; with_reducible rfl))) | (with_reducible refine wZ hTT cfS_ok noM_ok ?_) | (with_reducible refine wa ?_; refine And.intro ?_ ?_; (focus kernel_rfl)))
    exact ⟨rfl, rfl, _, rfl, rfl⟩
  obtain ⟨h0, h1, e1⟩ := two_of b1
  rw [e1] at hh ⊢
  have hzh : zh ≠ .n := fun e => by subst e; cases hh
  cases a1 : fldB h0
  · have a1' : fldB ⟨h0.a, h0.b, h0.c, h0.d⟩ = false := a1
    have e2 : stgG ls g = false := by unfold stgG; rw [e1]; split <;> simp_all
    rw [e2]
    repeat (first | (with_reducible (first | apply wA | apply wB | apply wC | apply wD | apply wE | apply wF | apply wG | apply wH | apply wI | apply wJ | apply wK | apply wL | apply wM | apply wN | apply wO | apply wP | apply wQ rfl | apply wR | apply wS | apply wT | apply wU)) | ((with_reducible (first | apply wV | apply wW | apply wX | (apply wY [] hTT cfS_ok noM_ok mixed; (focus kernel_rfl)))); (focus (simp only [Tryz.f96, cfS, c140, decFld, encFld, a0', a1', hzh, Int.cast_ofNat_Int, beq_self_eq_true, go_sem]; with_reducible rfl))) | (with_reducible refine wZ hTT cfS_ok noM_ok ?_) | (with_reducible refine wa ?_; refine And.intro ?_ ?_; (focus kernel_rfl)))
    exact ⟨rfl, rfl, _, rfl, rfl⟩
  have a1' : fldB ⟨h0.a, h0.b, h0.c, h0.d⟩ = true := a1
  cases a2 : fldB h1
  · have a2' : fldB ⟨h1.a, h1.b, h1.c, h1.d⟩ = false := a2
    have e2 : stgG ls g = false := by unfold stgG; rw [e1]; split <;> simp_all
    rw [e2]
    repeat (first | (with_reducible (first | apply wA | apply wB | apply wC | apply wD | apply wE | apply wF | apply wG | apply wH | apply wI | apply wJ | apply wK | apply wL | apply wM | apply wN | apply wO | apply wP | apply wQ rfl | apply wR | apply wS | apply wT | apply wU)) | ((with_reducible (first | apply wV | apply wW | apply wX | (apply wY [] hTT cfS_ok noM_ok mixed; (focus kernel_rfl)))); (focus (simp only [Tryz.f96, cfS, c140, decFld, encFld, a0', a1', a2', hzh, Int.cast_ofNat_Int, beq_self_eq_true, go_sem]; with_reducible rfl))) | (with_reducible refine wZ hTT cfS_ok noM_ok ?_) | (with_reducible refine wa ?_; refine And.intro ?_ ?_; (focus kernel_rfl)))
    exact ⟨rfl, rfl, _, rfl, rfl⟩
  have a2' : fldB ⟨h1.a, h1.b, h1.c, h1.d⟩ = true := a2
  by_cases b2 : g.rs.length = 2
  case neg =>
    rw [stgG_rs b2]
    have b2' := neq2 b2
    repeat (first | (with_reducible (first | apply wA | apply wB | apply wC | apply wD | apply wE | apply wF | apply wG | apply wH | apply wI | apply wJ | apply wK | apply wL | apply wM | apply wN | apply wO | apply wP | apply wQ rfl | apply wR | apply wS | apply wT | apply wU)) | ((with_reducible (first | apply wV | apply wW | apply wX | (apply wY [] hTT cfS_ok noM_ok mixed; (focus kernel_rfl)))); (focus (simp only [Tryz.f96, cfS, c140, decFld, encFld, a0', a1', a2', b2', hzh, Int.cast_ofNat_Int, beq_self_eq_true, go_sem]; with_reducible rfl))) | (with_reducible refine wZ hTT cfS_ok noM_ok ?_) | (with_reducible refine wa ?_; refine And.intro ?_ ?_; (focus kernel_rfl)))
    exact ⟨rfl, rfl, _, rfl, rfl⟩
  obtain ⟨r0, r1, e3⟩ := two_of b2
  rw [e3] at hr ⊢
  have hzr : zr ≠ .n := fun e => by subst e; cases hr
  have e2 : stgG ls g = (limbG ls r0 && limbG ls r1 && (r0 != r1)) := by unfold stgG; rw [e1, e3]; simp only [a0, a1, a2, Bool.true_and]
  rw [e2]
  cases a3 : limbG ls r0
  · repeat (first | (with_reducible (first | apply wA | apply wB | apply wC | apply wD | apply wE | apply wF | apply wG | apply wH | apply wI | apply wJ | apply wK | apply wL | apply wM | apply wN | apply wO | apply wP | apply wQ rfl | apply wR | apply wS | apply wT | apply wU)) | ((with_reducible (first | apply wV | apply wW | apply wX | (apply wY [] hTT cfS_ok noM_ok mixed; (focus kernel_rfl)))); (focus (simp only [Tryz.f96, cfS, c140, c88, decFld, encFld, a0', a1', a2', a3, hzh, hzr, hd, hs, closedL_lbs, Int.cast_ofNat_Int, beq_self_eq_true, go_sem]; with_reducible rfl))) | (with_reducible refine wZ hTT cfS_ok noM_ok ?_) | (with_reducible refine wa ?_; refine And.intro ?_ ?_; (focus kernel_rfl)))
    exact ⟨rfl, rfl, _, rfl, rfl⟩
  cases a4 : limbG ls r1
  · repeat (first | (with_reducible (first | apply wA | apply wB | apply wC | apply wD | apply wE | apply wF | apply wG | apply wH | apply wI | apply wJ | apply wK | apply wL | apply wM | apply wN | apply wO | apply wP | apply wQ rfl | apply wR | apply wS | apply wT | apply wU)) | ((with_reducible (first | apply wV | apply wW | apply wX | (apply wY [] hTT cfS_ok noM_ok mixed; (focus kernel_rfl)))); (focus (simp only [Tryz.f96, cfS, c140, c88, decFld, encFld, a0', a1', a2', a3, a4, hzh, hzr, hd, hs, closedL_lbs, Int.cast_ofNat_Int, beq_self_eq_true, go_sem]; with_reducible rfl))) | (with_reducible refine wZ hTT cfS_ok noM_ok ?_) | (with_reducible refine wa ?_; refine And.intro ?_ ?_; (focus kernel_rfl)))
    exact ⟨rfl, rfl, _, rfl, rfl⟩
  · repeat (first | (with_reducible (first | apply wA | apply wB | apply wC | apply wD | apply wE | apply wF | apply wG | apply wH | apply wI | apply wJ | apply wK | apply wL | apply wM | apply wN | apply wO | apply wP | apply wQ rfl | apply wR | apply wS | apply wT | apply wU)) | ((with_reducible (first | apply wV | apply wW | apply wX | (apply wY [] hTT cfS_ok noM_ok mixed; (focus kernel_rfl)))); (focus (simp only [Tryz.f96, cfS, c140, c88, decFld, encFld, a0', a1', a2', a3, a4, hzh, hzr, hd, hs, closedL_lbs, Int.cast_ofNat_Int, beq_self_eq_true, go_sem]; with_reducible rfl))) | (with_reducible refine wZ hTT cfS_ok noM_ok ?_) | (with_reducible refine wa ?_; refine And.intro ?_ ?_; (focus kernel_rfl)))
    exact ⟨rfl, rfl, _, rfl, rfl⟩
end Go.Pv
