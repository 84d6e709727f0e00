/- The law JointKnowns: its function returns true, whatever it is given. -/
import Derived.Test.YtmnocohggpmjcaaGreatDoorQvKnown
import Derived.Test.YtmnocohggpmjcaaGreatDoorQkBase
set_option linter.all false
namespace Go.Pv
open Go Go.RowKit Go.Proofs
set_option maxRecDepth 10000
set_option maxHeartbeats 4000000

def c38 : List PV → List Box → Option (PRes × List Box)
  | [v, .int .i64 n, w], sg => match decFig v, decPl w with
    | some (s, ls), some p => if figB s ls = true ∧ 0 ≤ n ∧ n < ls.length then some (.ret (knownX (matG s ls n p)), sg) else none
    | _, _ => none
  | _, _ => none
theorem c38_ok : ConOk Tryz.prog 38 c38 := ConOk.of0 (ent Tryz.func38 rfl) fun args sg r sg' h => by
  unfold c38 at h
  split at h <;> try (cases h; done)
  split at h <;> try (cases h; done)
  rename_i h1 h2
  split at h <;> cases h
  rename_i hc
  obtain ⟨z, rfl, hz⟩ := decFig_inv h1
  obtain rfl := decPl_inv _ _ h2
  exact ⟨_, rfl, rfl, by rw [ltBL_cons, ltB_fig]; rfl, RKnown_38 _ _ _ _ _ (zOk_n' hz) hc.1 hc.2⟩
def cfKd : CallF := cfAdd (cfAdd (cfAdd (cfAdd (cfAdd (cfAdd (cfAdd cf0 25 c25) 29 c29) 26 c85) 28 c88) 37 c37) 38 c38) 39 c39
theorem cfKd_ok (hk : ConOk Tryz.prog 29 c29) : CallFOk Tryz.prog cfKd := cfAdd_ok (cfAdd_ok (cfAdd_ok (cfAdd_ok (cfAdd_ok (cfAdd_ok (cfAdd_ok cf0_ok c25_ok) hk) c26_ok) c28_ok) c37_ok) c38_ok) c39_ok
theorem knowns_5 (hk : ConOk Tryz.prog 29 c29) (s : Int) (z : Z) (ls : List Lb) (n : Int) (p : Pl) (hzo : zOk z (ls.map encLb) = true) :
    CallOk Tryz.prog 5 [.agg [ii s, .sl z (ls.map encLb)], ii n, .agg [ii p.1, ii p.2]] [] (.ret (.bool true)) [] := by
  refine CallOk.of0 hTT Tryz.func5 rfl rfl ?_
  have hd := decFig_enc s z ls hzo
  have hdp : decPl (.agg [ii p.1, ii p.2]) = some p := rfl
  by_cases h0 : ls.length ≤ 7
  case neg =>
    have h0' : decide (ls.length ≤ 7) = false := by simp; omega
    repeat (first | (with_reducible (first | refine wA ?_ | refine wB ?_ | refine wC ?_ | refine wD ?_ | refine wE ?_ | refine wF ?_ | refine wG ?_ | refine wH ?_ | refine wI ?_ | refine wJ ?_ | refine wK ?_ | refine wL ?_ | refine wM ?_ | refine wN ?_ | refine wO ?_ | refine wP ?_ | refine wQ rfl ?_ | refine wR ?_ | refine wS ?_ | refine wT ?_ | refine wU ?_)) | ((with_reducible (first | apply wV | apply wW | apply wX | (apply wY [] hTT (cfKd_ok hk) noM_ok mixed; (focus kernel_rfl)))); (focus (simp only [Tryz.f5, cfKd, c25, c29, hd, h0', go_sem]; with_reducible rfl))) | (with_reducible refine wZ hTT (cfKd_ok hk) noM_ok ?_) | (with_reducible refine wa ?_; refine And.intro ?_ ?_; (focus kernel_rfl)))
    exact ⟨rfl, rfl, _, rfl, rfl⟩
  have h0' : decide (ls.length ≤ 7) = true := by simp; omega
  have hs : ls.length ≤ maxLen := by unfold maxLen; omega
  by_cases h1 : figB s ls = true ∧ limbG ls n = true
  case neg =>
    have hR : knownR s ls n p = .tuple [.sl .n [], ii 2] := by unfold knownR; rw [if_neg h1]
    cases a0 : figB s ls
    · repeat (first | (with_reducible (first | refine wA ?_ | refine wB ?_ | refine wC ?_ | refine wD ?_ | refine wE ?_ | refine wF ?_ | refine wG ?_ | refine wH ?_ | refine wI ?_ | refine wJ ?_ | refine wK ?_ | refine wL ?_ | refine wM ?_ | refine wN ?_ | refine wO ?_ | refine wP ?_ | refine wQ rfl ?_ | refine wR ?_ | refine wS ?_ | refine wT ?_ | refine wU ?_)) | ((with_reducible (first | apply wV | apply wW | apply wX | (apply wY [] hTT (cfKd_ok hk) noM_ok mixed; (focus kernel_rfl)))); (focus (simp only [Tryz.f5, cfKd, c25, c29, c37, c85, hd, hdp, h0', hR, a0, hs, beq_self_eq_true, go_sem]; with_reducible rfl))) | (with_reducible refine wZ hTT (cfKd_ok hk) noM_ok ?_) | (with_reducible refine wa ?_; refine And.intro ?_ ?_; (focus kernel_rfl)))
      exact ⟨rfl, rfl, _, rfl, rfl⟩
    · have a1 : limbG ls n = false := by
        cases b : limbG ls n
        · rfl
        · exact absurd ⟨a0, b⟩ h1
      repeat (first | (with_reducible (first | refine wA ?_ | refine wB ?_ | refine wC ?_ | refine wD ?_ | refine wE ?_ | refine wF ?_ | refine wG ?_ | refine wH ?_ | refine wI ?_ | refine wJ ?_ | refine wK ?_ | refine wL ?_ | refine wM ?_ | refine wN ?_ | refine wO ?_ | refine wP ?_ | refine wQ rfl ?_ | refine wR ?_ | refine wS ?_ | refine wT ?_ | refine wU ?_)) | ((with_reducible (first | apply wV | apply wW | apply wX | (apply wY [] hTT (cfKd_ok hk) noM_ok mixed; (focus kernel_rfl)))); (focus (simp only [Tryz.f5, cfKd, c25, c29, c37, c85, c88, hd, hdp, h0', hR, a0, a1, hs, beq_self_eq_true, go_sem]; with_reducible rfl))) | (with_reducible refine wZ hTT (cfKd_ok hk) noM_ok ?_) | (with_reducible refine wa ?_; refine And.intro ?_ ?_; (focus kernel_rfl)))
      exact ⟨rfl, rfl, _, rfl, rfl⟩
  obtain ⟨a0, a1⟩ := h1
  have hl := fig_len a0
  have hli : 0 ≤ n ∧ n < ls.length := by
    unfold limbG at a1
    simp [inB] at a1; omega
  have hl0 := hli.1
  have hl1 := hli.2
  have hR : knownR s ls n p = knownV (matG s ls n p) := by unfold knownR; rw [if_pos ⟨a0, a1⟩]
  cases hM : matG s ls n p with
  | nil =>
    rw [hM] at hR
    have hR : knownR s ls n p = .tuple [.sl .n [], ii 7] := hR
    have hX : knownX (matG s ls n p) = .tuple [.sl .n [], .bool false] := by rw [hM]; rfl
    repeat (first | (with_reducible (first | refine wA ?_ | refine wB ?_ | refine wC ?_ | refine wD ?_ | refine wE ?_ | refine wF ?_ | refine wG ?_ | refine wH ?_ | refine wI ?_ | refine wJ ?_ | refine wK ?_ | refine wL ?_ | refine wM ?_ | refine wN ?_ | refine wO ?_ | refine wP ?_ | refine wQ rfl ?_ | refine wR ?_ | refine wS ?_ | refine wT ?_ | refine wU ?_)) | ((with_reducible (first | apply wV | apply wW | apply wX | (apply wY [] hTT (cfKd_ok hk) noM_ok mixed; (focus kernel_rfl)))); (focus (simp only [Tryz.f5, cfKd, c25, c29, c37, c38, c85, c88, hd, hdp, h0', hR, hX, a0, a1, hl0, hl1, hs, beq_self_eq_true, go_sem]; with_reducible rfl))) | (with_reducible refine wZ hTT (cfKd_ok hk) noM_ok ?_) | (with_reducible refine wa ?_; refine And.intro ?_ ?_; (focus kernel_rfl)))
    exact ⟨rfl, rfl, _, rfl, rfl⟩
  | cons x M =>
    have hB := (bnd_len (matG s ls n p) fun l h => (pose_at (mem_poses.1 (List.mem_filter.1 h).1)).1).2 (by rw [hM]; simp)
    rw [hM] at hB
    generalize hBB : bndG (x :: M) = B at hB
    have hR : knownR s ls n p = .tuple [.sl .a (B.map spE), ii 0] := by rw [hR, hM, ← hBB]; rfl
    have hX : knownX (matG s ls n p) = .tuple [.sl .a (B.map spE), .bool true] := by rw [hM, ← hBB]; rfl
    have hdB : decSps1 (.sl .a (B.map spE)) = some B := decSps1_enc (by cases B <;> rfl)
    have hBm : B.length ≤ maxLen := by omega
    have hself : decide (B = B) = true := by simp
    repeat (first | (with_reducible (first | refine wA ?_ | refine wB ?_ | refine wC ?_ | refine wD ?_ | refine wE ?_ | refine wF ?_ | refine wG ?_ | refine wH ?_ | refine wI ?_ | refine wJ ?_ | refine wK ?_ | refine wL ?_ | refine wM ?_ | refine wN ?_ | refine wO ?_ | refine wP ?_ | refine wQ rfl ?_ | refine wR ?_ | refine wS ?_ | refine wT ?_ | refine wU ?_)) | ((with_reducible (first | apply wV | apply wW | apply wX | (apply wY [] hTT (cfKd_ok hk) noM_ok mixed; (focus kernel_rfl)))); (focus (simp only [Tryz.f5, cfKd, c25, c29, c37, c38, c39, c85, c88, hd, hdp, hdB, hBm, hself, h0', hR, hX, a0, a1, hl0, hl1, hs, beq_self_eq_true, go_sem]; with_reducible rfl))) | (with_reducible refine wZ hTT (cfKd_ok hk) noM_ok ?_) | (with_reducible refine wa ?_; refine And.intro ?_ ?_; (focus kernel_rfl)))
    exact ⟨rfl, rfl, _, rfl, rfl⟩
end Go.Pv
