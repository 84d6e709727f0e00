/- The laws BranchPlays and BranchWays: their functions return true, whatever they are given. -/
import Derived.Test.YtkjalecddameoaaGreatDoorQiTab
set_option linter.all false
namespace Go.Pv
open Go Go.RowKit Go.Proofs
set_option maxRecDepth 200000
set_option maxHeartbeats 8000000
def cfLa : CallF := cfAdd (cfAdd (cfAdd (cfAdd (cfAdd (cfAdd (cfAdd cf0 19 c19) 21 c21) 56 c56) 23 c23) 20 c20) 31 c31) 40 cSls
theorem cfLa_ok (hk : ConOk Tryz.prog 21 c21) : CallFOk Tryz.prog cfLa := cfAdd_ok (cfAdd_ok (cfAdd_ok (cfAdd_ok (cfAdd_ok (cfAdd_ok (cfAdd_ok cf0_ok c19_ok) hk) c56_ok) c23_ok) c20_ok) c31_ok) cSls40_ok
theorem law_plays (hk : ConOk Tryz.prog 21 c21) (s : Sty) (hok : s.ok = true) : CallOk Tryz.prog 12 [.agg s.cells] [] (.ret (.bool true)) [] := by
 refine CallOk.of0 hTT Tryz.func12 rfl rfl ?_
 have hd := decSt_cells s hok
 have h1 := closedL_sns s.sc
 have h2 := closedL_rzs s.rz
 cases h0 : shortB s
 ·repeat (with_reducible (first | apply nx | apply wQ rfl | ((first | apply wV | apply wW | apply wX | (apply wy (cfLa_ok hk); (focus kernel_rfl))); (focus (simp only [Tryz.f12, cfLa, c19, c21, hd, h0, h1, h2, go_sem]; rfl))) | refine wz (cfLa_ok hk) ?_ | (refine wa ?_; refine And.intro ?_ ?_; (focus kernel_rfl))))
  exact ⟨rfl, rfl, _, rfl, rfl⟩
 cases hst : s.story
 ·have hC : checkR s = ii 2 := by unfold checkR; rw [hst]; rfl
  have hP : playsR s = .tuple [.sl .n [], ii 2] := by unfold playsR; rw [hst]; rfl
  repeat (with_reducible (first | apply nx | apply wQ rfl | ((first | apply wV | apply wW | apply wX | (apply wy (cfLa_ok hk); (focus kernel_rfl))); (focus (simp only [Tryz.f12, cfLa, c19, c20, c21, c23, c56, hd, h0, hst, hC, hP, h1, h2, beq_self_eq_true, go_sem]; rfl))) | refine wz (cfLa_ok hk) ?_ | (refine wa ?_; refine And.intro ?_ ?_; (focus kernel_rfl))))
  exact ⟨rfl, rfl, _, rfl, rfl⟩
 ·have hC : checkR s = ii 0 := by unfold checkR; rw [hst]; rfl
  have hP : playsR s = .tuple [.sl (plZ (playsB s.e s.sc s.rl)) ((playsB s.e s.sc s.rl).map slx), ii 0] := by unfold playsR; rw [hst]; rfl
  have hPd := decSls_pls (playsB s.e s.sc s.rl)
  have hPc := closedL_slx (playsB s.e s.sc s.rl)
  have hPa := plays_all hst maxLen (by unfold maxLen; omega)
  have hPl : (playsB s.e s.sc s.rl).length ≤ 100000 := by have := plays_len_le (Sty.story_ok hst); omega
  have hde : decide (playsB s.e s.sc s.rl = playsB s.e s.sc s.rl) = true := decide_eq_true rfl
  repeat (with_reducible (first | apply nx | apply wQ rfl | ((first | apply wV | apply wW | apply wX | (apply wy (cfLa_ok hk); (focus kernel_rfl))); (focus (simp only [Tryz.f12, cfLa, c19, c20, c21, c23, c31, c56, cSls, plsV_def, hd, h0, hst, hC, hP, hPd, hPc, hPa, hPl, hde, h1, h2, beq_self_eq_true, go_sem]; rfl))) | refine wz (cfLa_ok hk) ?_ | (refine wa ?_; refine And.intro ?_ ?_; (focus kernel_rfl))))
  exact ⟨rfl, rfl, _, rfl, rfl⟩
def cfLb : CallF := cfAdd (cfAdd (cfAdd (cfAdd (cfAdd (cfAdd (cfAdd (cfAdd (cfAdd cfLa 30 c30) 24 c24) 25 c25) 26 c26) 33 c33) 32 cSw) 34 c34) 35 c35) 36 c36
theorem cfLb_ok (hk : ConOk Tryz.prog 21 c21) : CallFOk Tryz.prog cfLb := cfAdd_ok (cfAdd_ok (cfAdd_ok (cfAdd_ok (cfAdd_ok (cfAdd_ok (cfAdd_ok (cfAdd_ok (cfAdd_ok (cfLa_ok hk) c30_ok) c24_ok) c25_ok) c26_ok) c33_ok) c32_ok) c34_ok) c35_ok) c36_ok
def cfLc : CallF := cfAdd cfLb 29 c29s
theorem cfLc_ok (hk : ConOk Tryz.prog 21 c21) : CallFOk Tryz.prog cfLc := cfAdd_ok (cfLb_ok hk) c29s_ok
theorem law_ways (hk : ConOk Tryz.prog 21 c21) (s : Sty) (hok : s.ok = true) (z : Z) (p : List Int) (hz : zOk z (p.map ii) = true) : CallOk Tryz.prog 4 [.agg s.cells, .sl z (p.map ii)] [] (.ret (.bool true)) [] := by
 refine CallOk.of0 hTT Tryz.func4 rfl rfl ?_
 have hd := decSt_cells s hok
 have h1 := closedL_sns s.sc
 have h2 := closedL_rzs s.rz
 have hdp : decIs1 (.sl z (p.map ii)) = some p := decIs1_enc hz
 have hcp := closedL_is p
 have n00 : ((0 : Int) != 0) = false := rfl
 have n55 : ((5 : Int) != 5) = false := rfl
 cases h0 : shortB s
 ·repeat (with_reducible (first | apply nx | apply wQ rfl | ((first | apply wV | apply wW | apply wX | (apply wy (cfLc_ok hk); (focus kernel_rfl))); (focus (simp only [Tryz.f4, cfLc, cfLb, cfLa, c19, c21, hd, h0, h1, h2, go_sem]; rfl))) | refine wz (cfLc_ok hk) ?_ | (refine wa ?_; refine And.intro ?_ ?_; (focus kernel_rfl))))
  exact ⟨rfl, rfl, _, rfl, rfl⟩
 by_cases hl : p.length ≤ 12
 case neg =>
  have hl' : decide (p.length ≤ 12) = false := decide_eq_false hl
  repeat (with_reducible (first | apply nx | apply wQ rfl | ((first | apply wV | apply wW | apply wX | (apply wy (cfLc_ok hk); (focus kernel_rfl))); (focus (simp only [Tryz.f4, cfLc, cfLb, cfLa, c19, c21, c30, hd, hdp, hcp, hl', h0, h1, h2, go_sem]; rfl))) | refine wz (cfLc_ok hk) ?_ | (refine wa ?_; refine And.intro ?_ ?_; (focus kernel_rfl))))
  exact ⟨rfl, rfl, _, rfl, rfl⟩
 have hl' : decide (p.length ≤ 12) = true := decide_eq_true hl
 have hpl : p.length ≤ 100000 := by omega
 have hpm : p.length ≤ maxLen := by unfold maxLen; omega
 cases hst : s.story
 ·have hW : waysR s p = .tuple [ii 0, ii 2] := by unfold waysR; rw [hst]; rfl
  have hR : rulesR s p = .tuple [.sl .n [], ii 2] := by unfold rulesR; rw [hst]; rfl
  have hS : surelyR s = .tuple [.sl .n [], ii 2] := by unfold surelyR; rw [hst]; rfl
  repeat (with_reducible (first | apply nx | apply wQ rfl | ((first | apply wV | apply wW | apply wX | (apply wy (cfLc_ok hk); (focus kernel_rfl))); (focus (simp only [Tryz.f4, cfLc, cfLb, cfLa, c19, c20, c21, c24, c25, c26, c30, hd, hdp, hcp, hl', h0, hst, hW, hR, hS, h1, h2, beq_self_eq_true, go_sem]; rfl))) | refine wz (cfLc_ok hk) ?_ | (refine wa ?_; refine And.intro ?_ ?_; (focus kernel_rfl))))
  exact ⟨rfl, rfl, _, rfl, rfl⟩
 have hO := Sty.story_ok hst
 have k1 := hO.s1
 have k2 : s.sc.length ≤ 1000 := by have := hO.s8; omega
 have hPd := decSls_pls (playsB s.e s.sc s.rl)
 have hPc := closedL_slx (playsB s.e s.sc s.rl)
 have hPa := plays_all hst 1000 (by omega)
 have hPl : (playsB s.e s.sc s.rl).length ≤ 1000 := by have := plays_len_le hO; omega
 have hwl := words_len s.sc.length (playsB s.e s.sc s.rl)
 have hwc := closedL_is (wordsB s.sc.length (playsB s.e s.sc s.rl))
 have hwd : decIs1 (.sl .a ((wordsB s.sc.length (playsB s.e s.sc s.rl)).map ii)) = some (wordsB s.sc.length (playsB s.e s.sc s.rl)) := decIs1_enc rfl
 have hws : (wordsB s.sc.length (playsB s.e s.sc s.rl)).length ≤ 100000 := by omega
 have hwe : decide (wordsB s.sc.length (playsB s.e s.sc s.rl) = wordsB s.sc.length (playsB s.e s.sc s.rl)) = true := decide_eq_true rfl
 have hSu : surelyR s = wordsR s.sc.length (playsB s.e s.sc s.rl) := by unfold surelyR; rw [if_pos hst]
 have hcase : (areB s.sc.length p 0 = false ∧ waysR s p = .tuple [ii 0, ii 2] ∧ rulesR s p = .tuple [.sl .n [], ii 2]) ∨
  (areB s.sc.length p 0 = true ∧ waysR s p = .tuple [ii ((ofB (ders s.e s.sc s.rl) p).length : Nat), ii 0] ∧ ((rulesR s p = .tuple [.sl .n [], ii 5] ∧ rrulesR (ders s.e s.sc s.rl) p = .tuple [.sl .n [], .bool false]) ∨ ∃ r : List Int, r.length ≤ maxLen ∧ rulesR s p = .tuple [.sl .a (r.map ii), ii 0] ∧ rrulesR (ders s.e s.sc s.rl) p = .tuple [.sl .a (r.map ii), .bool true])) := by
  cases ha : areB s.sc.length p 0
  ·refine .inl ⟨rfl, ?_, ?_⟩
   ·unfold waysR; rw [hst, ha]; rfl
   ·unfold rulesR; rw [hst, ha]; rfl
  ·refine .inr ⟨rfl, ?_, ?_⟩
   ·unfold waysR; rw [hst, ha]; rfl
   ·unfold rulesR rrulesR
    rw [hst, ha]
    cases ho : ofB (ders s.e s.sc s.rl) p with
    | nil => exact .inl ⟨rfl, rfl⟩
    | cons d l =>
     have hdm : d ∈ ders s.e s.sc s.rl := (of_mem.1 (by rw [ho]; exact List.mem_cons_self)).1
     have := (ders_rules hO d hdm).1
     refine .inr ⟨intsN d.1, ?_, rfl, rfl⟩
     have e : (intsN d.1).length = d.1.length := List.length_map ..
     rw [e]
     unfold maxLen
     omega
 have hsur : ((playsB s.e s.sc s.rl).length = 0 ∧ surelyR s = .tuple [.sl .n [], ii 5]) ∨ ((playsB s.e s.sc s.rl).length ≠ 0 ∧ surelyR s = .tuple [.sl .a ((wordsB s.sc.length (playsB s.e s.sc s.rl)).map ii), ii 0]) := by
  rw [hSu]
  unfold wordsR
  by_cases h : (playsB s.e s.sc s.rl).length = 0
  ·exact .inl ⟨h, if_pos h⟩
  ·exact .inr ⟨h, if_neg h⟩
 clear hSu
 have hre : ∀ r : List Int, decide (r = r) = true := fun r => decide_eq_true rfl
 have hrc := closedL_is
 have hrd : ∀ r : List Int, decIs1 (.sl .a (r.map ii)) = some r := fun r => decIs1_enc rfl
 rcases hsur with ⟨b, hS⟩ | ⟨b, hS⟩
 ·have b0 : (((playsB s.e s.sc s.rl).length : Int) == 0) = true := by rw [b]; rfl
  rcases hcase with ⟨ha, hW, hR⟩ | ⟨ha, hW, ⟨hR, hQ⟩ | ⟨r, hr, hR, hQ⟩⟩
  ·repeat (with_reducible (first | apply nx | apply wQ rfl | ((first | apply wV | apply wW | apply wX | (apply wy (cfLc_ok hk); (focus kernel_rfl))); (focus (simp only [Tryz.f4, cfLc, cfLb, cfLa, c19, c20, c21, c24, c25, c26, c30, c31, c34, plsV_def, hd, hdp, hcp, hl', hpl, h0, hst, hW, hR, hS, b0, ha, k2, h1, h2, n00, n55, beq_self_eq_true, List.length_map, go_sem]; rfl))) | refine wz (cfLc_ok hk) ?_ | (refine wa ?_; refine And.intro ?_ ?_; (focus kernel_rfl))))
   exact ⟨rfl, rfl, _, rfl, rfl⟩
  ·repeat (with_reducible (first | apply nx | apply wQ rfl | ((first | apply wV | apply wW | apply wX | (apply wy (cfLc_ok hk); (focus kernel_rfl))); (focus (simp only [Tryz.f4, cfLc, cfLb, cfLa, c19, c20, c21, c24, c25, c26, c30, c31, c34, c35, c36, plsV_def, hd, hdp, hcp, hl', hpl, h0, hst, hW, hR, hS, hQ, b0, ha, k2, h1, h2, n00, n55, beq_self_eq_true, List.length_map, go_sem]; rfl))) | refine wz (cfLc_ok hk) ?_ | (refine wa ?_; refine And.intro ?_ ?_; (focus kernel_rfl))))
   exact ⟨rfl, rfl, _, rfl, rfl⟩
  ·repeat (with_reducible (first | apply nx | apply wQ rfl | ((first | apply wV | apply wW | apply wX | (apply wy (cfLc_ok hk); (focus kernel_rfl))); (focus (simp only [Tryz.f4, cfLc, cfLb, cfLa, c19, c20, c21, c24, c25, c26, c29s, c30, c31, c34, c35, c36, plsV_def, hd, hdp, hcp, hl', hpl, h0, hst, hW, hR, hS, hQ, b0, ha, k2, h1, h2, hr, hre, hrc, hrd, n00, n55, beq_self_eq_true, List.length_map, go_sem]; rfl))) | refine wz (cfLc_ok hk) ?_ | (refine wa ?_; refine And.intro ?_ ?_; (focus kernel_rfl))))
   exact ⟨rfl, rfl, _, rfl, rfl⟩
 ·have b0 : (((playsB s.e s.sc s.rl).length : Int) == 0) = false := by rw [beq_eq_false_iff_ne]; omega
  have bn : decide (playsB s.e s.sc s.rl = []) = false := decide_eq_false fun e => b (by rw [e]; rfl)
  rcases hcase with ⟨ha, hW, hR⟩ | ⟨ha, hW, ⟨hR, hQ⟩ | ⟨r, hr, hR, hQ⟩⟩
  ·repeat (with_reducible (first | apply nx | apply wQ rfl | ((first | apply wV | apply wW | apply wX | (apply wy (cfLc_ok hk); (focus kernel_rfl))); (focus (simp only [Tryz.f4, cfLc, cfLb, cfLa, c19, c20, c21, c24, c25, c26, c30, c31, c33, c34, cSw, plsV_def, hd, hdp, hcp, hl', hpl, h0, hst, hW, hR, hS, b0, bn, ha, k1, k2, h1, h2, hPd, hPc, hPa, hPl, hwc, hwd, hws, hwe, n00, n55, beq_self_eq_true, List.length_map, go_sem]; rfl))) | refine wz (cfLc_ok hk) ?_ | (refine wa ?_; refine And.intro ?_ ?_; (focus kernel_rfl))))
   exact ⟨rfl, rfl, _, rfl, rfl⟩
  ·repeat (with_reducible (first | apply nx | apply wQ rfl | ((first | apply wV | apply wW | apply wX | (apply wy (cfLc_ok hk); (focus kernel_rfl))); (focus (simp only [Tryz.f4, cfLc, cfLb, cfLa, c19, c20, c21, c24, c25, c26, c30, c31, c33, c34, c35, c36, cSw, plsV_def, hd, hdp, hcp, hl', hpl, h0, hst, hW, hR, hS, hQ, b0, bn, ha, k1, k2, h1, h2, hPd, hPc, hPa, hPl, hwc, hwd, hws, hwe, n00, n55, beq_self_eq_true, List.length_map, go_sem]; rfl))) | refine wz (cfLc_ok hk) ?_ | (refine wa ?_; refine And.intro ?_ ?_; (focus kernel_rfl))))
   exact ⟨rfl, rfl, _, rfl, rfl⟩
  ·repeat (with_reducible (first | apply nx | apply wQ rfl | ((first | apply wV | apply wW | apply wX | (apply wy (cfLc_ok hk); (focus kernel_rfl))); (focus (simp only [Tryz.f4, cfLc, cfLb, cfLa, c19, c20, c21, c24, c25, c26, c29s, c30, c31, c33, c34, c35, c36, cSw, plsV_def, hd, hdp, hcp, hl', hpl, h0, hst, hW, hR, hS, hQ, b0, bn, ha, k1, k2, h1, h2, hPd, hPc, hPa, hPl, hwc, hwd, hws, hwe, hr, hre, hrc, hrd, n00, n55, beq_self_eq_true, List.length_map, go_sem]; rfl))) | refine wz (cfLc_ok hk) ?_ | (refine wa ?_; refine And.intro ?_ ?_; (focus kernel_rfl))))
   exact ⟨rfl, rfl, _, rfl, rfl⟩
end Go.Pv
