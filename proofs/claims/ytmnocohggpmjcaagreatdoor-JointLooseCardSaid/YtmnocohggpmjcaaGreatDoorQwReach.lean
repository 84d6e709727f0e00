/- Contracts: where the end of a limb can be: Reach. -/
import Derived.Test.YtmnocohggpmjcaaGreatDoorQwOrdered
import Derived.Test.YtmnocohggpmjcaaGreatDoorQoFine
set_option linter.all false
namespace Go.Pv
open Go Go.RowKit Go.Proofs
set_option maxRecDepth 10000
set_option maxHeartbeats 4000000
def reachG (s : Int) (ls : List Lb) (limb : Int) : List Pl := putsP (endL s ls limb (posesG ls))
def reachR (s : Int) (ls : List Lb) (limb : Int) : PV := if figB s ls = true ∧ limbG ls limb = true then .tuple [plsP (reachG s ls limb), ii 0] else .tuple [.sl .n [], ii 2]
theorem limb_in {ls : List Lb} {n : Int} (h : limbG ls n = true) : 0 ≤ n ∧ n < ls.length := by
  unfold limbG at h
  simp [inB] at h; omega
theorem args_closed (s : Int) (z : Z) (ls : List Lb) (sp : List (Int × Int)) (n : Int) : closedL [.agg [ii s, .sl z (ls.map encLb)], .fn (.func 166) [] [spP .a sp], ii n] = true := by
  have e1 : (PV.agg [ii s, .sl z (ls.map encLb)]).closed = true := by
    show closedL [ii s, .sl z (ls.map encLb)] = true
    simp [closedL, PV.closed, closedL_lbs]
  have e2 : (PV.fn (.func 166) [] [spP .a sp]).closed = true := by
    show (closedL [] && closedL [spP .a sp]) = true
    simp only [closedL, spPc sp]
    rfl
  simp only [closedL, e1, e2]
  rfl
theorem fig_closed (s : Int) (z : Z) (ls : List Lb) : closedL [ii s, .sl z (ls.map encLb)] = true := by simp [closedL, PV.closed, closedL_lbs]
def cfOf : CallF := cfAdd (cfAdd (cfAdd (cfAdd cf0 85 c85) 88 c88) 86 c86) 90 c90
theorem cfOf_ok : CallFOk Tryz.prog cfOf := cfAdd_ok (cfAdd_ok (cfAdd_ok (cfAdd_ok cf0_ok c85_ok) c88_ok) c86_ok) c90_ok
theorem Reach_35 (s : Int) (z : Z) (ls : List Lb) (limb : Int) (hzo : zOk z (ls.map encLb) = true) :
    CallOk Tryz.prog 35 [.agg [ii s, .sl z (ls.map encLb)], ii limb] [] (.ret (reachR s ls limb)) [] := by
  refine CallOk.ofF hTT Tryz.func35 rfl rfl ?_
  have hd := decFig_enc s z ls hzo
  unfold reachR
  cases a0 : figB s ls
  · repeat (first | (with_reducible (first | apply wA | apply wB | apply wC | apply wD | apply wE | apply wF | apply wG | apply wH | apply wI | apply wJ | apply wK | apply wL | apply wM | apply wN | apply wO | apply wP | apply wQ rfl | apply wR | apply wS | apply wT | apply wU)) | ((with_reducible (first | apply wV | apply wW | apply wX | (apply wY [] hTT cfOf_ok noM_ok mixed; (focus kernel_rfl)))); (focus (simp only [Tryz.f35, cfOf, c85, hd, a0, notYield, go_sem]; with_reducible rfl))) | (with_reducible refine wZ hTT cfOf_ok noM_ok ?_) | (with_reducible refine wa ?_; refine And.intro ?_ ?_; (focus kernel_rfl)))
    exact ⟨rfl, rfl, _, rfl, leave_closed rfl⟩
  have hl := fig_len a0
  have hs : ls.length ≤ maxLen := by unfold maxLen; omega
  have hs2 : ls.length ≤ 1000 := by omega
  have hne : ls ≠ [] := fun e => by rw [e] at hl; simp at hl
  cases a1 : limbG ls limb
  · repeat (first | (with_reducible (first | apply wA | apply wB | apply wC | apply wD | apply wE | apply wF | apply wG | apply wH | apply wI | apply wJ | apply wK | apply wL | apply wM | apply wN | apply wO | apply wP | apply wQ rfl | apply wR | apply wS | apply wT | apply wU)) | ((with_reducible (first | apply wV | apply wW | apply wX | (apply wY [] hTT cfOf_ok noM_ok mixed; (focus kernel_rfl)))); (focus (simp only [Tryz.f35, cfOf, c85, c88, hd, a0, a1, hs, notYield, go_sem]; with_reducible rfl))) | (with_reducible refine wZ hTT cfOf_ok noM_ok ?_) | (with_reducible refine wa ?_; refine And.intro ?_ ?_; (focus kernel_rfl)))
    exact ⟨rfl, rfl, _, rfl, leave_closed rfl⟩
  rw [if_pos ⟨rfl, rfl⟩]
  have h89 := ordered_89 s z ls limb (spansG ls) hzo a0 (limb_in a1) (spans_in a0) (by simp [spansG]; omega) (fun l h => mem_poses.1 h) (poses_len a0)
  have hR : putsP (endL s ls limb (exts (spansG ls) [])) = reachG s ls limb := rfl
  rw [hR] at h89
  have hlt := ltBL_of_closed 0 _ (args_closed s z ls (spansG ls) limb)
  have hc1 := fig_closed s z ls
  have hc2 := spPc (spansG ls)
  have hc3 := plsP_closed (reachG s ls limb)
  generalize plsP (reachG s ls limb) = R at h89 hc3 ⊢
  repeat (first | (with_reducible (first | apply wA | apply wB | apply wC | apply wD | apply wE | apply wF | apply wG | apply wH | apply wI | apply wJ | apply wK | apply wL | apply wM | apply wN | apply wO | apply wP | apply wQ rfl | apply wR | apply wS | apply wT | apply wU)) | ((with_reducible (first | apply wV | apply wW | apply wX | (apply wY [] hTT (cfAt_ok cfOf_ok (ent Tryz.func89 rfl) h89 hlt) noM_ok mixed; (focus kernel_rfl)))); (focus (simp only [Tryz.f35, cfAt, cfOf, c85, c88, c90, hd, a0, a1, hs, hs2, hne, closedL_lbs, closedL_sp, notYield, go_sem]; with_reducible rfl))) | (with_reducible refine wZ hTT (cfAt_ok cfOf_ok (ent Tryz.func89 rfl) h89 hlt) noM_ok ?_) | (with_reducible refine wa ?_; refine And.intro ?_ ?_; (focus kernel_rfl)))
  exact ⟨rfl, rfl, _, rfl, leave_closed (show closedL [R, ii 0] = true from by simp only [closedL, hc3]; rfl)⟩
def c35 : List PV → List Box → Option (PRes × List Box)
  | [v, .int .i64 n], sg => match decFig v with
    | some (s, ls) => some (.ret (reachR s ls n), sg)
    | none => none
  | _, _ => none
theorem c35_ok : ConOk Tryz.prog 35 c35 := ConOk.of0 (ent Tryz.func35 rfl) fun args sg r sg' h => by
  unfold c35 at h
  split at h <;> try (cases h; done)
  split at h <;> cases h
  rename_i h1
  obtain ⟨z, rfl, hz⟩ := decFig_inv h1
  exact ⟨_, rfl, rfl, by rw [ltBL_cons, ltB_fig]; rfl, Reach_35 _ _ _ _ (zOk_n' hz)⟩
end Go.Pv
