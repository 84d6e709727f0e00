/- The laws JointReach and JointSpreads: their functions return true, whatever they are given. -/
import Derived.Test.YtmnocohggpmjcaaGreatDoorQwReach
import Derived.Test.YtmnocohggpmjcaaGreatDoorQkBase
set_option linter.all false
namespace Go.Pv
open Go Go.RowKit Go.Proofs
set_option maxRecDepth 10000
set_option maxHeartbeats 4000000

def cfOh : CallF := cfAdd (cfAdd (cfAdd (cfAdd (cfAdd (cfAdd (cfAdd (cfAdd (cfAdd cf0 25 c25) 29 c29) 26 c85) 27 c86) 28 c88) 35 c35) 36 c36) 53 c53) 54 c54
theorem cfOh_ok (hk : ConOk Tryz.prog 29 c29) : CallFOk Tryz.prog cfOh := cfAdd_ok (cfAdd_ok (cfAdd_ok (cfAdd_ok (cfAdd_ok (cfAdd_ok (cfAdd_ok (cfAdd_ok (cfAdd_ok cf0_ok c25_ok) hk) c26_ok) c27_ok) c28_ok) c35_ok) c36_ok) c53_ok) c54_ok
def cfOi : CallF := cfAdd cfOh 34 c34
theorem cfOi_ok (hk : ConOk Tryz.prog 29 c29) : CallFOk Tryz.prog cfOi := cfAdd_ok (cfOh_ok hk) c34_ok
theorem decPls1_pls (U : List Pl) : decPls1 (plsP U) = some U := by
  unfold plsP
  show (if zOk _ (U.map encPl) = true then decL decPl (U.map encPl) else none) = some U
  rw [if_pos]
  · exact decL_map (g := encPl) decPl_enc U
  · cases U <;> rfl
theorem reach_4 (hk : ConOk Tryz.prog 29 c29) (s : Int) (z : Z) (ls : List Lb) (n : Int) (hzo : zOk z (ls.map encLb) = true) :
    CallOk Tryz.prog 4 [.agg [ii s, .sl z (ls.map encLb)], ii n] [] (.ret (.bool true)) [] := by
  refine CallOk.of0 hTT Tryz.func4 rfl rfl ?_
  have hd := decFig_enc s z ls hzo
  by_cases h0 : ls.length ≤ 7
  case neg =>
    have h0' : decide (ls.length ≤ 7) = false := by simp; omega
    repeat (first | (with_reducible (first | refine wA ?_ | refine wB ?_ | refine wC ?_ | refine wD ?_ | refine wE ?_ | refine wF ?_ | refine wG ?_ | refine wH ?_ | refine wI ?_ | refine wJ ?_ | refine wK ?_ | refine wL ?_ | refine wM ?_ | refine wN ?_ | refine wO ?_ | refine wP ?_ | refine wQ rfl ?_ | refine wR ?_ | refine wS ?_ | refine wT ?_ | refine wU ?_)) | ((with_reducible (first | apply wV | apply wW | apply wX | (apply wY [] hTT (cfOi_ok hk) noM_ok mixed; (focus kernel_rfl)))); (focus (simp only [Tryz.f4, cfOi, cfOh, c25, c29, hd, h0', go_sem]; with_reducible rfl))) | (with_reducible refine wZ hTT (cfOi_ok hk) noM_ok ?_) | (with_reducible refine wa ?_; refine And.intro ?_ ?_; (focus kernel_rfl)))
    exact ⟨rfl, rfl, _, rfl, rfl⟩
  have h0' : decide (ls.length ≤ 7) = true := by simp; omega
  have hs : ls.length ≤ maxLen := by unfold maxLen; omega
  by_cases h1 : figB s ls = true ∧ limbG ls n = true
  case neg =>
    have hR : reachR s ls n = .tuple [.sl .n [], ii 2] := by unfold reachR; rw [if_neg h1]
    cases a0 : figB s ls
    · repeat (first | (with_reducible (first | refine wA ?_ | refine wB ?_ | refine wC ?_ | refine wD ?_ | refine wE ?_ | refine wF ?_ | refine wG ?_ | refine wH ?_ | refine wI ?_ | refine wJ ?_ | refine wK ?_ | refine wL ?_ | refine wM ?_ | refine wN ?_ | refine wO ?_ | refine wP ?_ | refine wQ rfl ?_ | refine wR ?_ | refine wS ?_ | refine wT ?_ | refine wU ?_)) | ((with_reducible (first | apply wV | apply wW | apply wX | (apply wY [] hTT (cfOi_ok hk) noM_ok mixed; (focus kernel_rfl)))); (focus (simp only [Tryz.f4, cfOi, cfOh, c25, c29, c35, c85, hd, h0', hR, a0, hs, beq_self_eq_true, go_sem]; with_reducible rfl))) | (with_reducible refine wZ hTT (cfOi_ok hk) noM_ok ?_) | (with_reducible refine wa ?_; refine And.intro ?_ ?_; (focus kernel_rfl)))
      exact ⟨rfl, rfl, _, rfl, rfl⟩
    · have a1 : limbG ls n = false := by
        cases b : limbG ls n
        · rfl
        · exact absurd ⟨a0, b⟩ h1
      repeat (first | (with_reducible (first | refine wA ?_ | refine wB ?_ | refine wC ?_ | refine wD ?_ | refine wE ?_ | refine wF ?_ | refine wG ?_ | refine wH ?_ | refine wI ?_ | refine wJ ?_ | refine wK ?_ | refine wL ?_ | refine wM ?_ | refine wN ?_ | refine wO ?_ | refine wP ?_ | refine wQ rfl ?_ | refine wR ?_ | refine wS ?_ | refine wT ?_ | refine wU ?_)) | ((with_reducible (first | apply wV | apply wW | apply wX | (apply wY [] hTT (cfOi_ok hk) noM_ok mixed; (focus kernel_rfl)))); (focus (simp only [Tryz.f4, cfOi, cfOh, c25, c29, c35, c85, c88, hd, h0', hR, a0, a1, hs, beq_self_eq_true, go_sem]; with_reducible rfl))) | (with_reducible refine wZ hTT (cfOi_ok hk) noM_ok ?_) | (with_reducible refine wa ?_; refine And.intro ?_ ?_; (focus kernel_rfl)))
      exact ⟨rfl, rfl, _, rfl, rfl⟩
  obtain ⟨a0, a1⟩ := h1
  have hl0 := (limb_in a1).1
  have hl1 := (limb_in a1).2
  have hR : reachR s ls n = .tuple [plsP (reachG s ls n), ii 0] := by unfold reachR; rw [if_pos ⟨a0, a1⟩]
  have hU : (reachG s ls n).length ≤ maxLen := by
    have h2 := puts_len (endL s ls n (posesG ls))
    have h3 := poses_len a0
    have h4 : (endL s ls n (posesG ls)).length = (posesG ls).length := by simp [endL]
    unfold maxLen reachG
    omega
  have hdU := decPls1_pls (reachG s ls n)
  have hself : decide (reachG s ls n = reachG s ls n) = true := by simp
  repeat (first | (with_reducible (first | refine wA ?_ | refine wB ?_ | refine wC ?_ | refine wD ?_ | refine wE ?_ | refine wF ?_ | refine wG ?_ | refine wH ?_ | refine wI ?_ | refine wJ ?_ | refine wK ?_ | refine wL ?_ | refine wM ?_ | refine wN ?_ | refine wO ?_ | refine wP ?_ | refine wQ rfl ?_ | refine wR ?_ | refine wS ?_ | refine wT ?_ | refine wU ?_)) | ((with_reducible (first | apply wV | apply wW | apply wX | (apply wY [] hTT (cfOi_ok hk) noM_ok mixed; (focus kernel_rfl)))); (focus (simp only [Tryz.f4, cfOi, cfOh, c25, c29, c34, c35, c36, c85, c88, hd, h0', hR, hdU, hU, hself, a0, a1, hl0, hl1, hs, beq_self_eq_true, go_sem]; with_reducible rfl))) | (with_reducible refine wZ hTT (cfOi_ok hk) noM_ok ?_) | (with_reducible refine wa ?_; refine And.intro ?_ ?_; (focus kernel_rfl)))
  exact ⟨rfl, rfl, _, rfl, rfl⟩
theorem spreads_11 (hk : ConOk Tryz.prog 29 c29) (s : Int) (z zp : Z) (ls : List Lb) (ps : List Int) (n : Int) (hzo : zOk z (ls.map encLb) = true) (hp : zOk zp (ps.map ii) = true) :
    CallOk Tryz.prog 11 [.agg [ii s, .sl z (ls.map encLb)], .sl zp (ps.map ii), ii n] [] (.ret (.bool true)) [] := by
  refine CallOk.of0 hTT Tryz.func11 rfl rfl ?_
  have hd := decFig_enc s z ls hzo
  have hd3 := decIs1_enc hp
  by_cases h0 : ls.length ≤ 7
  case neg =>
    have h0' : decide (ls.length ≤ 7) = false := by simp; omega
    repeat (first | (with_reducible (first | refine wA ?_ | refine wB ?_ | refine wC ?_ | refine wD ?_ | refine wE ?_ | refine wF ?_ | refine wG ?_ | refine wH ?_ | refine wI ?_ | refine wJ ?_ | refine wK ?_ | refine wL ?_ | refine wM ?_ | refine wN ?_ | refine wO ?_ | refine wP ?_ | refine wQ rfl ?_ | refine wR ?_ | refine wS ?_ | refine wT ?_ | refine wU ?_)) | ((with_reducible (first | apply wV | apply wW | apply wX | (apply wY [] hTT (cfOi_ok hk) noM_ok mixed; (focus kernel_rfl)))); (focus (simp only [Tryz.f11, cfOi, cfOh, c25, c29, hd, h0', go_sem]; with_reducible rfl))) | (with_reducible refine wZ hTT (cfOi_ok hk) noM_ok ?_) | (with_reducible refine wa ?_; refine And.intro ?_ ?_; (focus kernel_rfl)))
    exact ⟨rfl, rfl, _, rfl, rfl⟩
  have h0' : decide (ls.length ≤ 7) = true := by simp; omega
  have hs : ls.length ≤ maxLen := by unfold maxLen; omega
  have hs2 : ls.length ≤ 1000 := by omega
  by_cases h2 : (8 : Int) < ps.length
  · repeat (first | (with_reducible (first | refine wA ?_ | refine wB ?_ | refine wC ?_ | refine wD ?_ | refine wE ?_ | refine wF ?_ | refine wG ?_ | refine wH ?_ | refine wI ?_ | refine wJ ?_ | refine wK ?_ | refine wL ?_ | refine wM ?_ | refine wN ?_ | refine wO ?_ | refine wP ?_ | refine wQ rfl ?_ | refine wR ?_ | refine wS ?_ | refine wT ?_ | refine wU ?_)) | ((with_reducible (first | apply wV | apply wW | apply wX | (apply wY [] hTT (cfOi_ok hk) noM_ok mixed; (focus kernel_rfl)))); (focus (simp only [Tryz.f11, cfOi, cfOh, c25, c29, hd, h0', h2, gt_iff_lt, go_sem]; with_reducible rfl))) | (with_reducible refine wZ hTT (cfOi_ok hk) noM_ok ?_) | (with_reducible refine wa ?_; refine And.intro ?_ ?_; (focus kernel_rfl)))
    exact ⟨rfl, rfl, _, rfl, rfl⟩
  by_cases h1 : figB s ls = true ∧ poseG ls ps = true ∧ limbG ls n = true
  case neg =>
    have hR : spreadR s ls ps n = .tuple [.sl .n [], ii 2] := by unfold spreadR; rw [if_neg h1]
    cases a0 : figB s ls
    · repeat (first | (with_reducible (first | refine wA ?_ | refine wB ?_ | refine wC ?_ | refine wD ?_ | refine wE ?_ | refine wF ?_ | refine wG ?_ | refine wH ?_ | refine wI ?_ | refine wJ ?_ | refine wK ?_ | refine wL ?_ | refine wM ?_ | refine wN ?_ | refine wO ?_ | refine wP ?_ | refine wQ rfl ?_ | refine wR ?_ | refine wS ?_ | refine wT ?_ | refine wU ?_)) | ((with_reducible (first | apply wV | apply wW | apply wX | (apply wY [] hTT (cfOi_ok hk) noM_ok mixed; (focus kernel_rfl)))); (focus (simp only [Tryz.f11, cfOi, cfOh, c25, c29, c53, c85, hd, hd3, h0', h2, hR, a0, hs, gt_iff_lt, beq_self_eq_true, go_sem]; with_reducible rfl))) | (with_reducible refine wZ hTT (cfOi_ok hk) noM_ok ?_) | (with_reducible refine wa ?_; refine And.intro ?_ ?_; (focus kernel_rfl)))
      exact ⟨rfl, rfl, _, rfl, rfl⟩
    cases a2 : poseG ls ps
    · repeat (first | (with_reducible (first | refine wA ?_ | refine wB ?_ | refine wC ?_ | refine wD ?_ | refine wE ?_ | refine wF ?_ | refine wG ?_ | refine wH ?_ | refine wI ?_ | refine wJ ?_ | refine wK ?_ | refine wL ?_ | refine wM ?_ | refine wN ?_ | refine wO ?_ | refine wP ?_ | refine wQ rfl ?_ | refine wR ?_ | refine wS ?_ | refine wT ?_ | refine wU ?_)) | ((with_reducible (first | apply wV | apply wW | apply wX | (apply wY [] hTT (cfOi_ok hk) noM_ok mixed; (focus kernel_rfl)))); (focus (simp only [Tryz.f11, cfOi, cfOh, c25, c29, c53, c85, c86, hd, hd3, h0', h2, hR, a0, a2, hs, hs2, gt_iff_lt, beq_self_eq_true, go_sem]; with_reducible rfl))) | (with_reducible refine wZ hTT (cfOi_ok hk) noM_ok ?_) | (with_reducible refine wa ?_; refine And.intro ?_ ?_; (focus kernel_rfl)))
      exact ⟨rfl, rfl, _, rfl, rfl⟩
    · have a1 : limbG ls n = false := by
        cases b : limbG ls n
        · rfl
        · exact absurd ⟨a0, a2, b⟩ h1
      repeat (first | (with_reducible (first | refine wA ?_ | refine wB ?_ | refine wC ?_ | refine wD ?_ | refine wE ?_ | refine wF ?_ | refine wG ?_ | refine wH ?_ | refine wI ?_ | refine wJ ?_ | refine wK ?_ | refine wL ?_ | refine wM ?_ | refine wN ?_ | refine wO ?_ | refine wP ?_ | refine wQ rfl ?_ | refine wR ?_ | refine wS ?_ | refine wT ?_ | refine wU ?_)) | ((with_reducible (first | apply wV | apply wW | apply wX | (apply wY [] hTT (cfOi_ok hk) noM_ok mixed; (focus kernel_rfl)))); (focus (simp only [Tryz.f11, cfOi, cfOh, c25, c29, c53, c85, c86, c88, hd, hd3, h0', h2, hR, a0, a1, a2, hs, hs2, gt_iff_lt, beq_self_eq_true, go_sem]; with_reducible rfl))) | (with_reducible refine wZ hTT (cfOi_ok hk) noM_ok ?_) | (with_reducible refine wa ?_; refine And.intro ?_ ?_; (focus kernel_rfl)))
      exact ⟨rfl, rfl, _, rfl, rfl⟩
  obtain ⟨a0, a2, a1⟩ := h1
  have hl0 := (limb_in a1).1
  have hl1 := (limb_in a1).2
  have hR : spreadR s ls ps n = .tuple [plsP (spreadG s ls ps n), ii 0] := by unfold spreadR; rw [if_pos ⟨a0, a2, a1⟩]
  have hU : (spreadG s ls ps n).length ≤ maxLen := by
    have h2 := puts_len (endL s ls n (truthsG ls ps))
    have h3 := truths_len a0 a2
    have h4 : (endL s ls n (truthsG ls ps)).length = (truthsG ls ps).length := by simp [endL]
    unfold maxLen spreadG
    omega
  have hdU := decPls1_pls (spreadG s ls ps n)
  have hself : decide (spreadG s ls ps n = spreadG s ls ps n) = true := by simp
  repeat (first | (with_reducible (first | refine wA ?_ | refine wB ?_ | refine wC ?_ | refine wD ?_ | refine wE ?_ | refine wF ?_ | refine wG ?_ | refine wH ?_ | refine wI ?_ | refine wJ ?_ | refine wK ?_ | refine wL ?_ | refine wM ?_ | refine wN ?_ | refine wO ?_ | refine wP ?_ | refine wQ rfl ?_ | refine wR ?_ | refine wS ?_ | refine wT ?_ | refine wU ?_)) | ((with_reducible (first | apply wV | apply wW | apply wX | (apply wY [] hTT (cfOi_ok hk) noM_ok mixed; (focus kernel_rfl)))); (focus (simp only [Tryz.f11, cfOi, cfOh, c25, c29, c34, c53, c54, c85, c86, c88, hd, hd3, h0', h2, hR, hdU, hU, hself, a0, a1, a2, hl0, hl1, hs, hs2, gt_iff_lt, beq_self_eq_true, go_sem]; with_reducible rfl))) | (with_reducible refine wZ hTT (cfOi_ok hk) noM_ok ?_) | (with_reducible refine wa ?_; refine And.intro ?_ ?_; (focus kernel_rfl)))
  exact ⟨rfl, rfl, _, rfl, rfl⟩
end Go.Pv
