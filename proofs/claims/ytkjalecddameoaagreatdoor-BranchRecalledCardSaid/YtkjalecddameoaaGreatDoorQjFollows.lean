/- The law BranchFollows: its function returns true, whatever it is given. -/
import Derived.Test.YtkjalecddameoaaGreatDoorQiFoll
import Derived.Test.YtkjalecddameoaaGreatDoorQjPlays
set_option linter.all false
namespace Go.Pv
open Go Go.RowKit Go.Proofs
set_option maxRecDepth 200000
set_option maxHeartbeats 8000000
def cfT1 : CallF := cfAdd (cfAdd (cfAdd (cfAdd cfLc 37 c37) 38 c38) 39 c39) 41 c41
theorem cfT1_ok (hk : ConOk Tryz.prog 21 c21) : CallFOk Tryz.prog cfT1 := cfAdd_ok (cfAdd_ok (cfAdd_ok (cfAdd_ok (cfLc_ok hk) c37_ok) c38_ok) c39_ok) c41_ok
theorem isZ_n {l : List Int} (h : (if l.length = 0 then Z.n else Z.a) = .n) : l = [] := by
 split at h
 ·exact List.length_eq_zero_iff.1 (by assumption)
 ·cases h
theorem law_follows (hk : ConOk Tryz.prog 21 c21) (s : Sty) (hok : s.ok = true) (z : Z) (b : List Int) (hz : zOk z (b.map ii) = true) (y : Z) (q : List Int) (hy : zOk y (q.map ii) = true) : CallOk Tryz.prog 6 [.agg s.cells, .sl z (b.map ii), .sl y (q.map ii)] [] (.ret (.bool true)) [] := by
 refine CallOk.of0 hTT Tryz.func6 rfl rfl ?_
 have hd := decSt_cells s hok
 have h1 := closedL_sns s.sc
 have h2 := closedL_rzs s.rz
 have hdb : decIs1 (.sl z (b.map ii)) = some b := decIs1_enc hz
 have hcb := closedL_is b
 have hdq : decIs1 (.sl y (q.map ii)) = some q := decIs1_enc hy
 have hcq := closedL_is q
 cases h0 : shortB s
 ·repeat (with_reducible (first | apply nx | apply wQ rfl | ((first | apply wV | apply wW | apply wX | (apply wy (cfT1_ok hk); (focus kernel_rfl))); (focus (simp only [Tryz.f6, cfT1, cfLc, cfLb, cfLa, c19, c21, hd, h0, h1, h2, go_sem]; rfl))) | refine wz (cfT1_ok hk) ?_ | (refine wa ?_; refine And.intro ?_ ?_; (focus kernel_rfl))))
  exact ⟨rfl, rfl, _, rfl, rfl⟩
 by_cases hl : b.length ≤ 12
 case neg =>
  have hl' : decide (b.length ≤ 12) = false := decide_eq_false hl
  repeat (with_reducible (first | apply nx | apply wQ rfl | ((first | apply wV | apply wW | apply wX | (apply wy (cfT1_ok hk); (focus kernel_rfl))); (focus (simp only [Tryz.f6, cfT1, cfLc, cfLb, cfLa, c19, c21, c30, hd, hdb, hcb, hl', h0, h1, h2, go_sem]; rfl))) | refine wz (cfT1_ok hk) ?_ | (refine wa ?_; refine And.intro ?_ ?_; (focus kernel_rfl))))
  exact ⟨rfl, rfl, _, rfl, rfl⟩
 have hl' : decide (b.length ≤ 12) = true := decide_eq_true hl
 have hbl : b.length ≤ 100000 := by omega
 by_cases hm : q.length ≤ 12
 case neg =>
  have hm' : decide (q.length ≤ 12) = false := decide_eq_false hm
  repeat (with_reducible (first | apply nx | apply wQ rfl | ((first | apply wV | apply wW | apply wX | (apply wy (cfT1_ok hk); (focus kernel_rfl))); (focus (simp only [Tryz.f6, cfT1, cfLc, cfLb, cfLa, c19, c21, c30, hd, hdb, hcb, hl', hdq, hcq, hm', h0, h1, h2, go_sem]; rfl))) | refine wz (cfT1_ok hk) ?_ | (refine wa ?_; refine And.intro ?_ ?_; (focus kernel_rfl))))
  exact ⟨rfl, rfl, _, rfl, rfl⟩
 have hm' : decide (q.length ≤ 12) = true := decide_eq_true hm
 have hql : q.length ≤ 100000 := by omega
 cases hst : s.story
 ·have hF : followsR s b = .tuple [.sl .n [], ii 2] := by unfold followsR; rw [hst]; rfl
  have hA : agreesR s q = .tuple [.sl .n [], ii 2] := by unfold agreesR; rw [hst]; rfl
  repeat (with_reducible (first | apply nx | apply wQ rfl | ((first | apply wV | apply wW | apply wX | (apply wy (cfT1_ok hk); (focus kernel_rfl))); (focus (simp only [Tryz.f6, cfT1, cfLc, cfLb, cfLa, c19, c20, c21, c30, c37, c38, hd, hdb, hcb, hl', hdq, hcq, hm', h0, hst, hF, hA, h1, h2, beq_self_eq_true, go_sem]; rfl))) | refine wz (cfT1_ok hk) ?_ | (refine wa ?_; refine And.intro ?_ ?_; (focus kernel_rfl))))
  exact ⟨rfl, rfl, _, rfl, rfl⟩
 have hO := Sty.story_ok hst
 have k2 : s.sc.length ≤ 1000 := by have := hO.s8; omega
 have n00 : ((0 : Int) != 0) = false := rfl
 have n22 : ((2 : Int) != 2) = false := rfl
 obtain ⟨zF, hzF⟩ : ∃ zF : Z, zF = if (follB s.sc.length (playsB s.e s.sc s.rl) b).length = 0 then .n else .a := ⟨_, rfl⟩
 have hI : isV (follB s.sc.length (playsB s.e s.sc s.rl) b) = .sl zF ((follB s.sc.length (playsB s.e s.sc s.rl) b).map ii) := by rw [hzF]; rfl
 have hdF : decIs1 (.sl zF ((follB s.sc.length (playsB s.e s.sc s.rl) b).map ii)) = some (follB s.sc.length (playsB s.e s.sc s.rl) b) := decIs1_enc (zOk_of fun e => isZ_n (by rw [← hzF]; exact e))
 have hcF := closedL_is (follB s.sc.length (playsB s.e s.sc s.rl) b)
 have hlF : (follB s.sc.length (playsB s.e s.sc s.rl) b).length ≤ maxLen := by have := foll_len s.sc.length (playsB s.e s.sc s.rl) b; unfold maxLen; omega
 have heF : decide (follB s.sc.length (playsB s.e s.sc s.rl) b = follB s.sc.length (playsB s.e s.sc s.rl) b) = true := decide_eq_true rfl
 have hAd := decSls_pls (agreesB (playsB s.e s.sc s.rl) q)
 have hAc := closedL_slx (agreesB (playsB s.e s.sc s.rl) q)
 have hAa : ((agreesB (playsB s.e s.sc s.rl) q).all fun p => decide (p.length ≤ maxLen)) = true := List.all_eq_true.2 fun p hp => decide_eq_true (by have := hO.plays_fine p (List.mem_filter.1 hp).1; unfold maxLen; omega)
 have hAl : (agreesB (playsB s.e s.sc s.rl) q).length ≤ 100000 := by have := plays_len_le hO; have := agrees_len (playsB s.e s.sc s.rl) q; omega
 have hAe : decide (agreesB (playsB s.e s.sc s.rl) q = agreesB (playsB s.e s.sc s.rl) q) = true := decide_eq_true rfl
 cases ha : areB s.sc.length b 0
 ·have hF : followsR s b = .tuple [.sl .n [], ii 2] := by unfold followsR; rw [hst, ha]; rfl
  cases hc : areB s.sc.length q (-1)
  ·have hA : agreesR s q = .tuple [.sl .n [], ii 2] := by unfold agreesR; rw [hst, hc]; rfl
   repeat (with_reducible (first | apply nx | apply wQ rfl | ((first | apply wV | apply wW | apply wX | (apply wy (cfT1_ok hk); (focus kernel_rfl))); (focus (simp only [Tryz.f6, cfT1, cfLc, cfLb, cfLa, c19, c20, c21, c30, c34, c37, c38, hd, hdb, hcb, hl', hbl, hdq, hcq, hm', hql, h0, hst, hF, hA, ha, hc, k2, n22, n00, h1, h2, beq_self_eq_true, go_sem]; rfl))) | refine wz (cfT1_ok hk) ?_ | (refine wa ?_; refine And.intro ?_ ?_; (focus kernel_rfl))))
   exact ⟨rfl, rfl, _, rfl, rfl⟩
  ·have hA : agreesR s q = .tuple [.sl (plZ (agreesB (playsB s.e s.sc s.rl) q)) ((agreesB (playsB s.e s.sc s.rl) q).map slx), ii 0] := by unfold agreesR; rw [hst, hc]; rfl
   repeat (with_reducible (first | apply nx | apply wQ rfl | ((first | apply wV | apply wW | apply wX | (apply wy (cfT1_ok hk); (focus kernel_rfl))); (focus (simp only [Tryz.f6, cfT1, cfLc, cfLb, cfLa, c19, c20, c21, c30, c34, c37, c38, c41, cSls, plsV_def, hd, hdb, hcb, hl', hbl, hdq, hcq, hm', hql, h0, hst, hF, hA, hAd, hAc, hAa, hAl, hAe, ha, hc, k2, n22, n00, h1, h2, beq_self_eq_true, go_sem]; rfl))) | refine wz (cfT1_ok hk) ?_ | (refine wa ?_; refine And.intro ?_ ?_; (focus kernel_rfl))))
   exact ⟨rfl, rfl, _, rfl, rfl⟩
 ·have hF : followsR s b = .tuple [.sl zF ((follB s.sc.length (playsB s.e s.sc s.rl) b).map ii), ii 0] := by rw [← hI]; unfold followsR; rw [hst, ha]; rfl
  cases hc : areB s.sc.length q (-1)
  ·have hA : agreesR s q = .tuple [.sl .n [], ii 2] := by unfold agreesR; rw [hst, hc]; rfl
   repeat (with_reducible (first | apply nx | apply wQ rfl | ((first | apply wV | apply wW | apply wX | (apply wy (cfT1_ok hk); (focus kernel_rfl))); (focus (simp only [Tryz.f6, cfT1, cfLc, cfLb, cfLa, c19, c20, c21, c29s, c30, c34, c37, c38, c39, hd, hdb, hcb, hl', hbl, hdq, hcq, hm', hql, h0, hst, hF, hI, hdF, hcF, hlF, heF, hA, ha, hc, k2, n22, n00, h1, h2, beq_self_eq_true, go_sem]; rfl))) | refine wz (cfT1_ok hk) ?_ | (refine wa ?_; refine And.intro ?_ ?_; (focus kernel_rfl))))
   exact ⟨rfl, rfl, _, rfl, rfl⟩
  ·have hA : agreesR s q = .tuple [.sl (plZ (agreesB (playsB s.e s.sc s.rl) q)) ((agreesB (playsB s.e s.sc s.rl) q).map slx), ii 0] := by unfold agreesR; rw [hst, hc]; rfl
   repeat (with_reducible (first | apply nx | apply wQ rfl | ((first | apply wV | apply wW | apply wX | (apply wy (cfT1_ok hk); (focus kernel_rfl))); (focus (simp only [Tryz.f6, cfT1, cfLc, cfLb, cfLa, c19, c20, c21, c29s, c30, c34, c37, c38, c39, c41, cSls, plsV_def, hd, hdb, hcb, hl', hbl, hdq, hcq, hm', hql, h0, hst, hF, hI, hdF, hcF, hlF, heF, hA, hAd, hAc, hAa, hAl, hAe, ha, hc, k2, n22, n00, h1, h2, beq_self_eq_true, go_sem]; rfl))) | refine wz (cfT1_ok hk) ?_ | (refine wa ?_; refine And.intro ?_ ?_; (focus kernel_rfl))))
   exact ⟨rfl, rfl, _, rfl, rfl⟩
end Go.Pv
