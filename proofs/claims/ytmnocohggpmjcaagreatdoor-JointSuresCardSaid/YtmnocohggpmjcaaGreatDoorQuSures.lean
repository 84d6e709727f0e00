/- The law JointSures: its function returns true, whatever it is given. -/
import Derived.Test.YtmnocohggpmjcaaGreatDoorQuRef
set_option linter.all false
namespace Go.Pv
open Go Go.RowKit Go.Proofs
set_option maxRecDepth 10000
set_option maxHeartbeats 4000000

def cfWh : CallF := cfAdd (cfAdd (cfAdd (cfAdd (cfAdd (cfAdd (cfAdd (cfAdd (cfAdd cf0 41 c41) 43 c43) 27 c86) 29 c29) 55 c55) 56 c56) 57 c57) 58 c58) 49 c49
theorem cfWh_ok (hk : ConOk Tryz.prog 29 c29) : CallFOk Tryz.prog cfWh := cfAdd_ok (cfAdd_ok (cfAdd_ok (cfAdd_ok (cfAdd_ok (cfAdd_ok (cfAdd_ok (cfAdd_ok (cfAdd_ok cf0_ok c41_ok) c43_ok) c27_ok) hk) c55_ok) c56_ok) c57_ok) c58_ok) c49_ok

theorem sures_12 (hk : ConOk Tryz.prog 29 c29) (s : Int) (z zh zr zp : Z) (ls : List Lb) (g : Stg) (ps : List Int) (hzo : zOk z (ls.map encLb) = true) (hh : zOk zh (g.hs.map encFld) = true) (hr : zOk zr (g.rs.map ii) = true) (hp : zOk zp (ps.map ii) = true) :
    CallOk Tryz.prog 12 [.agg [ii s, .sl z (ls.map encLb)], encStg zh zr g, .sl zp (ps.map ii)] [] (.ret (.bool true)) [] := by
  refine CallOk.of0 hTT Tryz.func12 rfl rfl ?_
  have hd := decFig_enc s z ls hzo
  have hd2 := decStg_enc hh hr
  have hd3 := decIs1_enc hp
  unfold encStg at hd2 ⊢
  cases h0 : stagedG ls g
  · repeat (first | (with_reducible (first | refine wA ?_ | refine wB ?_ | refine wC ?_ | refine wD ?_ | refine wE ?_ | refine wF ?_ | refine wG ?_ | refine wH ?_ | refine wI ?_ | refine wJ ?_ | refine wK ?_ | refine wL ?_ | refine wM ?_ | refine wN ?_ | refine wO ?_ | refine wP ?_ | refine wQ rfl ?_ | refine wR ?_ | refine wS ?_ | refine wT ?_ | refine wU ?_)) | ((with_reducible (first | apply wV | apply wW | apply wX | (apply wY [] hTT (cfWh_ok hk) noM_ok mixed; (focus kernel_rfl)))); (focus (simp only [Tryz.f12, cfWh, c41, c29, hd, hd2, h0, go_sem]; with_reducible rfl))) | (with_reducible refine wZ hTT (cfWh_ok hk) noM_ok ?_) | (with_reducible refine wa ?_; refine And.intro ?_ ?_; (focus kernel_rfl)))
    exact ⟨rfl, rfl, _, rfl, rfl⟩
  by_cases h2 : (8 : Int) < ps.length
  · repeat (first | (with_reducible (first | refine wA ?_ | refine wB ?_ | refine wC ?_ | refine wD ?_ | refine wE ?_ | refine wF ?_ | refine wG ?_ | refine wH ?_ | refine wI ?_ | refine wJ ?_ | refine wK ?_ | refine wL ?_ | refine wM ?_ | refine wN ?_ | refine wO ?_ | refine wP ?_ | refine wQ rfl ?_ | refine wR ?_ | refine wS ?_ | refine wT ?_ | refine wU ?_)) | ((with_reducible (first | apply wV | apply wW | apply wX | (apply wY [] hTT (cfWh_ok hk) noM_ok mixed; (focus kernel_rfl)))); (focus (simp only [Tryz.f12, cfWh, c41, c29, hd, hd2, h0, h2, gt_iff_lt, go_sem]; with_reducible rfl))) | (with_reducible refine wZ hTT (cfWh_ok hk) noM_ok ?_) | (with_reducible refine wa ?_; refine And.intro ?_ ?_; (focus kernel_rfl)))
    exact ⟨rfl, rfl, _, rfl, rfl⟩
  have b50 : ((5 : Int) != 5) = false := rfl
  have b20 : ((2 : Int) == 0) = false := rfl
  by_cases h1 : figB s ls = true ∧ stgG ls g = true
  case neg =>
    have hR : sureR s ls g ps = .tuple [ii 0, ii 2] := by unfold sureR; rw [if_neg fun e => h1 ⟨e.1, e.2.1⟩]
    have hF : proofR s ls g ps = .tuple [.sl .n [], ii 2] := by unfold proofR; rw [if_neg fun e => h1 ⟨e.1, e.2.1⟩]
    have hri : rightG s ls g = false := by
      unfold rightG
      rw [h0, Bool.true_and]
      cases a : figB s ls
      · rfl
      · cases b : stgG ls g
        · rfl
        · exact absurd ⟨a, b⟩ h1
    repeat (first | (with_reducible (first | refine wA ?_ | refine wB ?_ | refine wC ?_ | refine wD ?_ | refine wE ?_ | refine wF ?_ | refine wG ?_ | refine wH ?_ | refine wI ?_ | refine wJ ?_ | refine wK ?_ | refine wL ?_ | refine wM ?_ | refine wN ?_ | refine wO ?_ | refine wP ?_ | refine wQ rfl ?_ | refine wR ?_ | refine wS ?_ | refine wT ?_ | refine wU ?_)) | ((with_reducible (first | apply wV | apply wW | apply wX | (apply wY [] hTT (cfWh_ok hk) noM_ok mixed; (focus kernel_rfl)))); (focus (simp only [Tryz.f12, cfWh, c29, c41, c43, c55, c56, hd, hd2, hd3, h0, h2, hR, hF, hri, gt_iff_lt, beq_self_eq_true, go_sem]; with_reducible rfl))) | (with_reducible refine wZ hTT (cfWh_ok hk) noM_ok ?_) | (with_reducible refine wa ?_; refine And.intro ?_ ?_; (focus kernel_rfl)))
    exact ⟨rfl, rfl, _, rfl, rfl⟩
  have hri : rightG s ls g = true := by unfold rightG; rw [h0, h1.1, h1.2]; rfl
  have hl := fig_len h1.1
  have hs : ls.length ≤ 1000 := by omega
  have hh1 := h1.1
  have hh2 := h1.2
  cases h3 : poseG ls ps
  · have hR : sureR s ls g ps = .tuple [ii 0, ii 2] := by unfold sureR; rw [if_neg fun e => by rw [h3] at e; exact absurd e.2.2 (by simp)]
    have hF : proofR s ls g ps = .tuple [.sl .n [], ii 2] := by unfold proofR; rw [if_neg fun e => by rw [h3] at e; exact absurd e.2.2 (by simp)]
    repeat (first | (with_reducible (first | refine wA ?_ | refine wB ?_ | refine wC ?_ | refine wD ?_ | refine wE ?_ | refine wF ?_ | refine wG ?_ | refine wH ?_ | refine wI ?_ | refine wJ ?_ | refine wK ?_ | refine wL ?_ | refine wM ?_ | refine wN ?_ | refine wO ?_ | refine wP ?_ | refine wQ rfl ?_ | refine wR ?_ | refine wS ?_ | refine wT ?_ | refine wU ?_)) | ((with_reducible (first | apply wV | apply wW | apply wX | (apply wY [] hTT (cfWh_ok hk) noM_ok mixed; (focus kernel_rfl)))); (focus (simp only [Tryz.f12, cfWh, c29, c41, c43, c55, c56, c86, hd, hd2, hd3, h0, h2, h3, hh1, hh2, hs, hR, hF, hri, gt_iff_lt, beq_self_eq_true, go_sem]; with_reducible rfl))) | (with_reducible refine wZ hTT (cfWh_ok hk) noM_ok ?_) | (with_reducible refine wa ?_; refine And.intro ?_ ?_; (focus kernel_rfl)))
    exact ⟨rfl, rfl, _, rfl, rfl⟩
  have hR : sureR s ls g ps = .tuple [ii (sureI (truthsG ls ps) (finG s ls g)), ii 0] := by unfold sureR; rw [if_pos ⟨h1.1, h1.2, h3⟩]
  have hF : proofR s ls g ps = proofV (proofO (truthsG ls ps) (finG s ls g)) := by unfold proofR; rw [if_pos ⟨h1.1, h1.2, h3⟩]
  have hX : proofX s ls g ps = proofW (proofO (truthsG ls ps) (finG s ls g)) := rfl
  have hTp : ∀ l ∈ truthsG ls ps, poseG ls l = true := fun l h => truth_pose h3 h
  generalize hw : sureI (truthsG ls ps) (finG s ls g) = w at *
  have hww : (w != w) = false := bne_self_eq_false w
  cases ho : proofO (truthsG ls ps) (finG s ls g) with
  | none =>
    rw [ho] at hF hX
    have hF : proofR s ls g ps = .tuple [.sl .n [], ii 5] := hF
    have hX : proofX s ls g ps = .tuple [.sl .n [], .bool false] := hX
    repeat (first | (with_reducible (first | refine wA ?_ | refine wB ?_ | refine wC ?_ | refine wD ?_ | refine wE ?_ | refine wF ?_ | refine wG ?_ | refine wH ?_ | refine wI ?_ | refine wJ ?_ | refine wK ?_ | refine wL ?_ | refine wM ?_ | refine wN ?_ | refine wO ?_ | refine wP ?_ | refine wQ rfl ?_ | refine wR ?_ | refine wS ?_ | refine wT ?_ | refine wU ?_)) | ((with_reducible (first | apply wV | apply wW | apply wX | (apply wY [] hTT (cfWh_ok hk) noM_ok mixed; (focus kernel_rfl)))); (focus (simp only [Tryz.f12, cfWh, c29, c41, c43, c55, c56, c57, c58, c86, hd, hd2, hd3, h0, h2, h3, hh1, hh2, hs, hR, hF, hX, hw, hww, hri, gt_iff_lt, beq_self_eq_true, go_sem]; with_reducible rfl))) | (with_reducible refine wZ hTT (cfWh_ok hk) noM_ok ?_) | (with_reducible refine wa ?_; refine And.intro ?_ ?_; (focus kernel_rfl)))
    exact ⟨rfl, rfl, _, rfl, rfl⟩
  | some l =>
    rw [ho] at hF hX
    have hlp : poseG ls l = true := hTp l (List.mem_of_find?_eq_some ho)
    have hll : l.length ≤ maxLen := by
      have := (pose_at hlp).1
      unfold maxLen; omega
    obtain ⟨zm, hzm, hzmk⟩ := pvL_z l
    have hF : proofR s ls g ps = .tuple [pvL l, ii 0] := hF
    have hX : proofX s ls g ps = .tuple [pvL l, .bool true] := hX
    rw [hzm] at hF hX
    have hdm := decIs1_enc hzmk
    have hself : decide (l = l) = true := by simp
    repeat (first | (with_reducible (first | refine wA ?_ | refine wB ?_ | refine wC ?_ | refine wD ?_ | refine wE ?_ | refine wF ?_ | refine wG ?_ | refine wH ?_ | refine wI ?_ | refine wJ ?_ | refine wK ?_ | refine wL ?_ | refine wM ?_ | refine wN ?_ | refine wO ?_ | refine wP ?_ | refine wQ rfl ?_ | refine wR ?_ | refine wS ?_ | refine wT ?_ | refine wU ?_)) | ((with_reducible (first | apply wV | apply wW | apply wX | (apply wY [] hTT (cfWh_ok hk) noM_ok mixed; (focus kernel_rfl)))); (focus (simp only [Tryz.f12, cfWh, c29, c41, c43, c49, c55, c56, c57, c58, c86, hd, hd2, hd3, hdm, hll, h0, h2, h3, hh1, hh2, hs, hR, hF, hX, hw, hww, hri, gt_iff_lt, beq_self_eq_true, go_sem]; with_reducible rfl))) | (with_reducible refine wZ hTT (cfWh_ok hk) noM_ok ?_) | (with_reducible refine wa ?_; refine And.intro ?_ ?_; (focus kernel_rfl)))
    exact ⟨rfl, rfl, _, rfl, rfl⟩
end Go.Pv
