/- Contracts: stages in the reference; what is right; wider fields; which pose comes first; whether a pose is fine. -/
import Derived.Test.YtmnocohggpmjcaaGreatDoorQnA
import Derived.Test.YtmnocohggpmjcaaGreatDoorQhFine
set_option linter.all false
namespace Go.Pv
open Go Go.RowKit Go.Proofs
set_option maxRecDepth 10000
set_option maxHeartbeats 4000000
def decStg : PV → Option Stg
  | .agg [.int .i64 a, .int .i64 b, .int .i64 c, .int .i64 d, .sl zh hs, .sl zr rs] => if zOk zh hs = true ∧ zOk zr rs = true then match decL decFld hs, decL decI rs with
      | some hs, some rs => some ⟨⟨a, b, c, d⟩, hs, rs⟩
      | _, _ => none
    else none
  | _ => none
theorem decFlds (l : List Fld) : decL decFld (l.map encFld) = some l := decL_map (g := encFld) (fun _ => rfl) l
theorem decStg_enc {zh zr : Z} {g : Stg} (hh : zOk zh (g.hs.map encFld) = true) (hr : zOk zr (g.rs.map ii) = true) : decStg (encStg zh zr g) = some g := by
  simp [decStg, encStg, hh, hr, decFlds, decIs]
theorem decStg_inv {v : PV} {g : Stg} (h : decStg v = some g) : ∃ zh zr, v = encStg zh zr g ∧ zOk zh (g.hs.map encFld) = true ∧ zOk zr (g.rs.map ii) = true := by
  unfold decStg at h
  split at h <;> try (cases h; done)
  split at h <;> try (cases h; done)
  rename_i hz
  split at h <;> cases h
  rename_i h1 h2
  obtain rfl := decL_inv decFld_inv h1
  obtain rfl := decL_inv decI_inv h2
  exact ⟨_, _, rfl, hz.1, hz.2⟩
theorem ltB_stg (zh zr : Z) (g : Stg) (m : Nat) : (encStg zh zr g).ltB m = true := by
  show ltBL m _ = true
  simp only [ltBL_cons, ltB_int, ltB_sl, ltB_flds, ltB_is, ltBL_nil, Bool.and_true]
def c96 : List PV → List Box → Option (PRes × List Box)
  | [v, w], sg => match decFig v, decStg w with
    | some (_, ls), some g => if ls.length ≤ maxLen then some (.ret (.bool (stgG ls g)), sg) else none
    | _, _ => none
  | _, _ => none
theorem c96_ok : ConOk Tryz.prog 96 c96 := ConOk.of0 (ent Tryz.func96 rfl) fun args sg r sg' h => by
  unfold c96 at h
  split at h <;> try (cases h; done)
  split at h <;> try (cases h; done)
  rename_i h1 h2
  split at h <;> cases h
  rename_i hc
  obtain ⟨z, rfl, hz⟩ := decFig_inv h1
  obtain ⟨zh, zr, rfl, hh, hr⟩ := decStg_inv h2
  exact ⟨_, rfl, rfl, by rw [ltBL_cons, ltB_fig, ltBL_cons, ltB_stg]; rfl, isStage_96 _ _ _ _ _ _ (zOk_n' hz) hh hr hc⟩
theorem Stage_101 (s : Int) (z zh zr : Z) (ls : List Lb) (g : Stg) (hzo : zOk z (ls.map encLb) = true) (hh : zOk zh (g.hs.map encFld) = true) (hr : zOk zr (g.rs.map ii) = true) (hs : ls.length ≤ maxLen) :
    CallOk Tryz.prog 101 [.agg [ii s, .sl z (ls.map encLb)], encStg zh zr g] [] (.ret (.bool (stgG ls g))) [] := by
  refine CallOk.of0 hTT Tryz.func101 rfl rfl ?_
  have hd := decFig_enc s z ls hzo
  unfold encStg
  by_cases b1 : g.hs.length = 2
  case neg =>
    rw [stgG_hs b1]
    have b1' := neq2 b1
    repeat (first | (with_reducible (first | apply wA | apply wB | apply wC | apply wD | apply wE | apply wF | apply wG | apply wH | apply wI | apply wJ | apply wK | apply wL | apply wM | apply wN | apply wO | apply wP | apply wQ rfl | apply wR | apply wS | apply wT | apply wU)) | ((with_reducible (first | apply wV | apply wW | apply wX | (apply wY [] hTT cfS_ok noM_ok mixed; (focus kernel_rfl)))); (focus (simp only [Tryz.f101, cfS, b1', bne, go_sem]; with_reducible rfl))) | (with_reducible refine wZ hTT cfS_ok noM_ok ?_) | (with_reducible refine wa ?_; refine And.intro ?_ ?_; (focus kernel_rfl)))
    exact ⟨rfl, rfl, _, rfl, rfl⟩
  obtain ⟨h0, h1, e1⟩ := two_of b1
  by_cases b2 : g.rs.length = 2
  case neg =>
    rw [stgG_rs b2]
    have b2' := neq2 b2
    rw [e1]
    repeat (first | (with_reducible (first | apply wA | apply wB | apply wC | apply wD | apply wE | apply wF | apply wG | apply wH | apply wI | apply wJ | apply wK | apply wL | apply wM | apply wN | apply wO | apply wP | apply wQ rfl | apply wR | apply wS | apply wT | apply wU)) | ((with_reducible (first | apply wV | apply wW | apply wX | (apply wY [] hTT cfS_ok noM_ok mixed; (focus kernel_rfl)))); (focus (simp only [Tryz.f101, cfS, b2', bne, Int.cast_ofNat_Int, beq_self_eq_true, go_sem]; with_reducible rfl))) | (with_reducible refine wZ hTT cfS_ok noM_ok ?_) | (with_reducible refine wa ?_; refine And.intro ?_ ?_; (focus kernel_rfl)))
    exact ⟨rfl, rfl, _, rfl, rfl⟩
  obtain ⟨r0, r1, e3⟩ := two_of b2
  rw [e1] at hh
  rw [e3] at hr
  have hzh : zh ≠ .n := fun e => by subst e; cases hh
  have hzr : zr ≠ .n := fun e => by subst e; cases hr
  have e2 : stgG ls g = (fldB g.e && fldB h0 && fldB h1 && limbG ls r0 && limbG ls r1 && (r0 != r1)) := by unfold stgG; rw [e1, e3]
  rw [e2, e1, e3]
  cases a0 : fldB g.e
  · have a0' : fldB ⟨g.e.a, g.e.b, g.e.c, g.e.d⟩ = false := a0
    repeat (first | (with_reducible (first | apply wA | apply wB | apply wC | apply wD | apply wE | apply wF | apply wG | apply wH | apply wI | apply wJ | apply wK | apply wL | apply wM | apply wN | apply wO | apply wP | apply wQ rfl | apply wR | apply wS | apply wT | apply wU)) | ((with_reducible (first | apply wV | apply wW | apply wX | (apply wY [] hTT cfS_ok noM_ok mixed; (focus kernel_rfl)))); (focus (simp only [Tryz.f101, cfS, c140, decFld, encFld, a0', Int.cast_ofNat_Int, bne, beq_self_eq_true, go_sem]; with_reducible rfl))) | (with_reducible refine wZ hTT cfS_ok noM_ok ?_) | (with_reducible refine wa ?_; refine And.intro ?_ ?_; (focus kernel_rfl)))
    exact ⟨rfl, rfl, _, rfl, rfl⟩
  have a0' : fldB ⟨g.e.a, g.e.b, g.e.c, g.e.d⟩ = true := a0
  cases a1 : fldB h0
  · have a1' : fldB ⟨h0.a, h0.b, h0.c, h0.d⟩ = false := a1
    repeat (first | (with_reducible (first | apply wA | apply wB | apply wC | apply wD | apply wE | apply wF | apply wG | apply wH | apply wI | apply wJ | apply wK | apply wL | apply wM | apply wN | apply wO | apply wP | apply wQ rfl | apply wR | apply wS | apply wT | apply wU)) | ((with_reducible (first | apply wV | apply wW | apply wX | (apply wY [] hTT cfS_ok noM_ok mixed; (focus kernel_rfl)))); (focus (simp only [Tryz.f101, cfS, c140, decFld, encFld, a0', a1', hzh, Int.cast_ofNat_Int, bne, beq_self_eq_true, go_sem]; with_reducible rfl))) | (with_reducible refine wZ hTT cfS_ok noM_ok ?_) | (with_reducible refine wa ?_; refine And.intro ?_ ?_; (focus kernel_rfl)))
    exact ⟨rfl, rfl, _, rfl, rfl⟩
  have a1' : fldB ⟨h0.a, h0.b, h0.c, h0.d⟩ = true := a1
  cases a2 : fldB h1
  · have a2' : fldB ⟨h1.a, h1.b, h1.c, h1.d⟩ = false := a2
    repeat (first | (with_reducible (first | apply wA | apply wB | apply wC | apply wD | apply wE | apply wF | apply wG | apply wH | apply wI | apply wJ | apply wK | apply wL | apply wM | apply wN | apply wO | apply wP | apply wQ rfl | apply wR | apply wS | apply wT | apply wU)) | ((with_reducible (first | apply wV | apply wW | apply wX | (apply wY [] hTT cfS_ok noM_ok mixed; (focus kernel_rfl)))); (focus (simp only [Tryz.f101, cfS, c140, decFld, encFld, a0', a1', a2', hzh, Int.cast_ofNat_Int, bne, beq_self_eq_true, go_sem]; with_reducible rfl))) | (with_reducible refine wZ hTT cfS_ok noM_ok ?_) | (with_reducible refine wa ?_; refine And.intro ?_ ?_; (focus kernel_rfl)))
    exact ⟨rfl, rfl, _, rfl, rfl⟩
  have a2' : fldB ⟨h1.a, h1.b, h1.c, h1.d⟩ = true := a2
  cases a3 : limbG ls r0
  · repeat (first | (with_reducible (first | apply wA | apply wB | apply wC | apply wD | apply wE | apply wF | apply wG | apply wH | apply wI | apply wJ | apply wK | apply wL | apply wM | apply wN | apply wO | apply wP | apply wQ rfl | apply wR | apply wS | apply wT | apply wU)) | ((with_reducible (first | apply wV | apply wW | apply wX | (apply wY [] hTT cfS_ok noM_ok mixed; (focus kernel_rfl)))); (focus (simp only [Tryz.f101, cfS, c140, c88, decFld, encFld, a0', a1', a2', a3, hzh, hzr, hd, hs, closedL_lbs, Int.cast_ofNat_Int, bne, beq_self_eq_true, go_sem]; with_reducible rfl))) | (with_reducible refine wZ hTT cfS_ok noM_ok ?_) | (with_reducible refine wa ?_; refine And.intro ?_ ?_; (focus kernel_rfl)))
    exact ⟨rfl, rfl, _, rfl, rfl⟩
  cases a4 : limbG ls r1
  · repeat (first | (with_reducible (first | apply wA | apply wB | apply wC | apply wD | apply wE | apply wF | apply wG | apply wH | apply wI | apply wJ | apply wK | apply wL | apply wM | apply wN | apply wO | apply wP | apply wQ rfl | apply wR | apply wS | apply wT | apply wU)) | ((with_reducible (first | apply wV | apply wW | apply wX | (apply wY [] hTT cfS_ok noM_ok mixed; (focus kernel_rfl)))); (focus (simp only [Tryz.f101, cfS, c140, c88, decFld, encFld, a0', a1', a2', a3, a4, hzh, hzr, hd, hs, closedL_lbs, Int.cast_ofNat_Int, bne, beq_self_eq_true, go_sem]; with_reducible rfl))) | (with_reducible refine wZ hTT cfS_ok noM_ok ?_) | (with_reducible refine wa ?_; refine And.intro ?_ ?_; (focus kernel_rfl)))
    exact ⟨rfl, rfl, _, rfl, rfl⟩
  · repeat (first | (with_reducible (first | apply wA | apply wB | apply wC | apply wD | apply wE | apply wF | apply wG | apply wH | apply wI | apply wJ | apply wK | apply wL | apply wM | apply wN | apply wO | apply wP | apply wQ rfl | apply wR | apply wS | apply wT | apply wU)) | ((with_reducible (first | apply wV | apply wW | apply wX | (apply wY [] hTT cfS_ok noM_ok mixed; (focus kernel_rfl)))); (focus (simp only [Tryz.f101, cfS, c140, c88, decFld, encFld, a0', a1', a2', a3, a4, hzh, hzr, hd, hs, closedL_lbs, Int.cast_ofNat_Int, bne, beq_self_eq_true, go_sem]; with_reducible rfl))) | (with_reducible refine wZ hTT cfS_ok noM_ok ?_) | (with_reducible refine wa ?_; refine And.intro ?_ ?_; (focus kernel_rfl)))
    exact ⟨rfl, rfl, _, rfl, rfl⟩
theorem c101_ok : ConOk Tryz.prog 101 c96 := ConOk.of0 (ent Tryz.func101 rfl) fun args sg r sg' h => by
  unfold c96 at h
  split at h <;> try (cases h; done)
  split at h <;> try (cases h; done)
  rename_i h1 h2
  split at h <;> cases h
  rename_i hc
  obtain ⟨z, rfl, hz⟩ := decFig_inv h1
  obtain ⟨zh, zr, rfl, hh, hr⟩ := decStg_inv h2
  exact ⟨_, rfl, rfl, by rw [ltBL_cons, ltB_fig, ltBL_cons, ltB_stg]; rfl, Stage_101 _ _ _ _ _ _ (zOk_n' hz) hh hr hc⟩
end Go.Pv
