/- Contracts: where the end of a limb can be if a pose is put: Spread. -/
import Derived.Test.YtmnocohggpmjcaaGreatDoorQwReach
import Derived.Test.YtmnocohggpmjcaaGreatDoorQuTru
set_option linter.all false
namespace Go.Pv
open Go Go.RowKit Go.Proofs
set_option maxRecDepth 10000
set_option maxHeartbeats 4000000
def spreadG (s : Int) (ls : List Lb) (ps : List Int) (limb : Int) : List Pl := putsP (endL s ls limb (truthsG ls ps))
def spreadR (s : Int) (ls : List Lb) (ps : List Int) (limb : Int) : PV := if figB s ls = true ∧ poseG ls ps = true ∧ limbG ls limb = true then .tuple [plsP (spreadG s ls ps limb), ii 0] else .tuple [.sl .n [], ii 2]
def cfOs : CallF := cfAdd cfOf 109 c109
theorem cfOs_ok : CallFOk Tryz.prog cfOs := cfAdd_ok cfOf_ok c109_ok
theorem Spread_53 (s : Int) (z zp : Z) (ls : List Lb) (ps : List Int) (limb : Int) (hzo : zOk z (ls.map encLb) = true) (hzp : zOk zp (ps.map ii) = true) :
    CallOk Tryz.prog 53 [.agg [ii s, .sl z (ls.map encLb)], .sl zp (ps.map ii), ii limb] [] (.ret (spreadR s ls ps limb)) [] := by
  refine CallOk.ofF hTT Tryz.func53 rfl rfl ?_
  have hd := decFig_enc s z ls hzo
  have hd3 := decIs1_enc hzp
  unfold spreadR
  cases a0 : figB s ls
  · repeat (first | (with_reducible (first | apply wA | apply wB | apply wC | apply wD | apply wE | apply wF | apply wG | apply wH | apply wI | apply wJ | apply wK | apply wL | apply wM | apply wN | apply wO | apply wP | apply wQ rfl | apply wR | apply wS | apply wT | apply wU)) | ((with_reducible (first | apply wV | apply wW | apply wX | (apply wY [] hTT cfOs_ok noM_ok mixed; (focus kernel_rfl)))); (focus (simp only [Tryz.f53, cfOs, cfOf, c85, hd, a0, notYield, go_sem]; with_reducible rfl))) | (with_reducible refine wZ hTT cfOs_ok noM_ok ?_) | (with_reducible refine wa ?_; refine And.intro ?_ ?_; (focus kernel_rfl)))
    exact ⟨rfl, rfl, _, rfl, leave_closed rfl⟩
  have hl := fig_len a0
  have hs : ls.length ≤ maxLen := by unfold maxLen; omega
  have hs2 : ls.length ≤ 1000 := by omega
  cases a2 : poseG ls ps
  · repeat (first | (with_reducible (first | apply wA | apply wB | apply wC | apply wD | apply wE | apply wF | apply wG | apply wH | apply wI | apply wJ | apply wK | apply wL | apply wM | apply wN | apply wO | apply wP | apply wQ rfl | apply wR | apply wS | apply wT | apply wU)) | ((with_reducible (first | apply wV | apply wW | apply wX | (apply wY [] hTT cfOs_ok noM_ok mixed; (focus kernel_rfl)))); (focus (simp only [Tryz.f53, cfOs, cfOf, c85, c86, hd, hd3, a0, a2, hs2, notYield, go_sem]; with_reducible rfl))) | (with_reducible refine wZ hTT cfOs_ok noM_ok ?_) | (with_reducible refine wa ?_; refine And.intro ?_ ?_; (focus kernel_rfl)))
    exact ⟨rfl, rfl, _, rfl, leave_closed rfl⟩
  cases a1 : limbG ls limb
  · repeat (first | (with_reducible (first | apply wA | apply wB | apply wC | apply wD | apply wE | apply wF | apply wG | apply wH | apply wI | apply wJ | apply wK | apply wL | apply wM | apply wN | apply wO | apply wP | apply wQ rfl | apply wR | apply wS | apply wT | apply wU)) | ((with_reducible (first | apply wV | apply wW | apply wX | (apply wY [] hTT cfOs_ok noM_ok mixed; (focus kernel_rfl)))); (focus (simp only [Tryz.f53, cfOs, cfOf, c85, c86, c88, hd, hd3, a0, a1, a2, hs, hs2, notYield, go_sem]; with_reducible rfl))) | (with_reducible refine wZ hTT cfOs_ok noM_ok ?_) | (with_reducible refine wa ?_; refine And.intro ?_ ?_; (focus kernel_rfl)))
    exact ⟨rfl, rfl, _, rfl, leave_closed rfl⟩
  rw [if_pos ⟨rfl, rfl, rfl⟩]
  have h89 := ordered_89 s z ls limb (truS ls ps) hzo a0 (limb_in a1) (fun x hx => by have := tru_bd a0 a2 x hx; omega) (by rw [tru_len a2]; omega) (fun l h => truth_pose a2 h) (truths_len a0 a2)
  have hR : putsP (endL s ls limb (exts (truS ls ps) [])) = spreadG s ls ps limb := rfl
  rw [hR] at h89
  have hlt := ltBL_of_closed 0 _ (args_closed s z ls (truS ls ps) limb)
  have hc3 := plsP_closed (spreadG s ls ps limb)
  generalize plsP (spreadG s ls ps limb) = R at h89 hc3 ⊢
  repeat (first | (with_reducible (first | apply wA | apply wB | apply wC | apply wD | apply wE | apply wF | apply wG | apply wH | apply wI | apply wJ | apply wK | apply wL | apply wM | apply wN | apply wO | apply wP | apply wQ rfl | apply wR | apply wS | apply wT | apply wU)) | ((with_reducible (first | apply wV | apply wW | apply wX | (apply wY [] hTT (cfAt_ok cfOs_ok (ent Tryz.func89 rfl) h89 hlt) noM_ok mixed; (focus kernel_rfl)))); (focus (simp only [Tryz.f53, cfAt, cfOs, cfOf, c85, c86, c88, c109, hd, hd3, a0, a1, a2, hs, hs2, closedL_lbs, closedL_sp, closedL_is, notYield, go_sem]; with_reducible rfl))) | (with_reducible refine wZ hTT (cfAt_ok cfOs_ok (ent Tryz.func89 rfl) h89 hlt) noM_ok ?_) | (with_reducible refine wa ?_; refine And.intro ?_ ?_; (focus kernel_rfl)))
  exact ⟨rfl, rfl, _, rfl, leave_closed (show closedL [R, ii 0] = true from by simp only [closedL, hc3]; rfl)⟩
def c53 : List PV → List Box → Option (PRes × List Box)
  | [v, p, .int .i64 n], sg => match decFig v, decIs1 p with
    | some (s, ls), some ps => some (.ret (spreadR s ls ps n), sg)
    | _, _ => none
  | _, _ => none
theorem c53_ok : ConOk Tryz.prog 53 c53 := ConOk.of0 (ent Tryz.func53 rfl) fun args sg r sg' h => by
  unfold c53 at h
  split at h <;> try (cases h; done)
  split at h <;> cases h
  rename_i h1 h3
  obtain ⟨z, rfl, hz⟩ := decFig_inv h1
  obtain ⟨zp, rfl, hp⟩ := decIs1_inv h3
  exact ⟨_, rfl, rfl, by rw [ltBL_cons, ltB_fig, ltBL_cons, ltB_isl]; rfl, Spread_53 _ _ _ _ _ _ (zOk_n' hz) (zOk_n' hp)⟩
end Go.Pv
