/- The law BranchDerived: its function returns true, whatever it is given. -/
import Derived.Test.YtkjalecddameoaaGreatDoorQjListed
set_option linter.all false
namespace Go.Pv
open Go Go.RowKit Go.Proofs
set_option maxRecDepth 200000
set_option maxHeartbeats 8000000
def cfN1 : CallF := cfAdd cfM1 22 c22
theorem cfN1_ok (hk : ConOk Tryz.prog 21 c21) : CallFOk Tryz.prog cfN1 := cfAdd_ok (cfM1_ok hk) c22_ok
theorem derived_facts {s : Sty} (hst : s.story = true) {rs p : List Int} (hd : derQ s.e s.rl rs [0] = some p) : p ∈ playsB s.e s.sc s.rl ∧ ∃ (n : Int) (r : List Int), 1 ≤ n ∧ waysR s p = .tuple [ii n, ii 0] ∧ rulesR s p = .tuple [.sl .a (r.map ii), ii 0] ∧ r.length ≤ 70 ∧ sooner rs r = false ∧ (n = 1 → rs = r) ∧ derQ s.e s.rl r [0] = some p := by
 have hO := Sty.story_ok hst
 obtain ⟨hp, ns, rfl, hm⟩ := hO.derQ_play hd
 have ha := are_play hst hp
 refine ⟨hp, ?_⟩
 unfold waysR rulesR
 rw [hst, ha]
 have hne := (hO.play_of (p := p)).1 hp
 cases ho : ofB (ders s.e s.sc s.rl) p with
 | nil => exact absurd ho hne
 | cons d l =>
  have hdm := of_mem.1 (show d ∈ ofB (ders s.e s.sc s.rl) p by rw [ho]; exact List.mem_cons_self)
  refine ⟨((l.length + 1 : Nat) : Int), intsN d.1, by omega, rfl, rfl, ?_, of_first ho hm rfl, ?_, ?_⟩
  ·have := (ders_rules hO d hdm.1).1
   have e : (intsN d.1).length = d.1.length := List.length_map ..
   omega
  ·intro e1
   have hl : l = [] := List.length_eq_zero_iff.1 (by omega)
   have hx : ((ns, p) : List Nat × List Int) ∈ ofB (ders s.e s.sc s.rl) p := of_mem.2 ⟨hm, rfl⟩
   rw [ho, hl, List.mem_singleton] at hx
   rw [← hx]
  ·rw [hO.derQ_of hdm.1, hdm.2]
theorem law_derived (hk : ConOk Tryz.prog 21 c21) (s : Sty) (hok : s.ok = true) (z : Z) (rs : List Int) (hz : zOk z (rs.map ii) = true) : CallOk Tryz.prog 3 [.agg s.cells, .sl z (rs.map ii)] [] (.ret (.bool true)) [] := by
 refine CallOk.of0 hTT Tryz.func3 rfl rfl ?_
 have hd := decSt_cells s hok
 have h1 := closedL_sns s.sc
 have h2 := closedL_rzs s.rz
 have hdr : decIs1 (.sl z (rs.map ii)) = some rs := decIs1_enc hz
 have hcr := closedL_is rs
 cases h0 : shortB s
 ·repeat (with_reducible (first | apply nx | apply wQ rfl | ((first | apply wV | apply wW | apply wX | (apply wy (cfN1_ok hk); (focus kernel_rfl))); (focus (simp only [Tryz.f3, cfN1, cfM1, cfLc, cfLb, cfLa, c19, c21, hd, h0, h1, h2, go_sem]; rfl))) | refine wz (cfN1_ok hk) ?_ | (refine wa ?_; refine And.intro ?_ ?_; (focus kernel_rfl))))
  exact ⟨rfl, rfl, _, rfl, rfl⟩
 cases hst : s.story
 ·repeat (with_reducible (first | apply nx | apply wQ rfl | ((first | apply wV | apply wW | apply wX | (apply wy (cfN1_ok hk); (focus kernel_rfl))); (focus (simp only [Tryz.f3, cfN1, cfM1, cfLc, cfLb, cfLa, c19, c20, c21, hd, h0, hst, h1, h2, go_sem]; rfl))) | refine wz (cfN1_ok hk) ?_ | (refine wa ?_; refine And.intro ?_ ?_; (focus kernel_rfl))))
  exact ⟨rfl, rfl, _, rfl, rfl⟩
 by_cases hl : rs.length ≤ 70
 case neg =>
  have hl' : (70 : Int) < (rs.length : Int) := by omega
  repeat (with_reducible (first | apply nx | apply wQ rfl | ((first | apply wV | apply wW | apply wX | (apply wy (cfN1_ok hk); (focus kernel_rfl))); (focus (simp only [Tryz.f3, cfN1, cfM1, cfLc, cfLb, cfLa, c19, c20, c21, hd, hl', h0, hst, h1, h2, gt_iff_lt, List.length_map, go_sem]; rfl))) | refine wz (cfN1_ok hk) ?_ | (refine wa ?_; refine And.intro ?_ ?_; (focus kernel_rfl))))
  exact ⟨rfl, rfl, _, rfl, rfl⟩
 have hl' : ¬ (70 : Int) < (rs.length : Int) := by omega
 have hrl : rs.length ≤ 100000 := by omega
 cases hq : derQ s.e s.rl rs [0] with
 | none =>
  have hv : derV (derQ s.e s.rl rs [0]) = .tuple [.sl .n [], .bool false] := by rw [hq]; rfl
  repeat (with_reducible (first | apply nx | apply wQ rfl | ((first | apply wV | apply wW | apply wX | (apply wy (cfN1_ok hk); (focus kernel_rfl))); (focus (simp only [Tryz.f3, cfN1, cfM1, cfLc, cfLb, cfLa, c19, c20, c21, c22, hd, hdr, hcr, hl', hrl, hv, h0, hst, h1, h2, gt_iff_lt, List.length_map, go_sem]; rfl))) | refine wz (cfN1_ok hk) ?_ | (refine wa ?_; refine And.intro ?_ ?_; (focus kernel_rfl))))
  exact ⟨rfl, rfl, _, rfl, rfl⟩
 | some p =>
 have hv : derV (derQ s.e s.rl rs [0]) = .tuple [.sl .a (p.map ii), .bool true] := by rw [hq]; rfl
 obtain ⟨hp, n, r, hn1, hW, hR, hr70, hso, hone, hdq⟩ := derived_facts hst hq
 have hv2 : derV (derQ s.e s.rl r [0]) = .tuple [.sl .a (p.map ii), .bool true] := by rw [hdq]; rfl
 clear hq hdq
 have hO := Sty.story_ok hst
 have k1 : s.sc.length ≤ 1000 := by have := hO.s8; omega
 have hP : playsR s = .tuple [.sl (plZ (playsB s.e s.sc s.rl)) ((playsB s.e s.sc s.rl).map slx), ii 0] := by unfold playsR; rw [hst]; rfl
 have hS : surelyR s = .tuple [.sl .a ((wordsB s.sc.length (playsB s.e s.sc s.rl)).map ii), ii 0] := by
  unfold surelyR wordsR
  rw [if_pos hst, if_neg]
  intro e
  rw [List.length_eq_zero_iff.1 e] at hp
  cases hp
 have hPd := decSls_pls (playsB s.e s.sc s.rl)
 have hPc := closedL_slx (playsB s.e s.sc s.rl)
 have hPa := plays_all hst maxLen (by unfold maxLen; omega)
 have hP40 := plays_len_le hO
 have hPl : (playsB s.e s.sc s.rl).length ≤ 100000 := by omega
 have g40 : ¬ (40 : Int) < ((playsB s.e s.sc s.rl).length : Int) := by omega
 have hpf := hO.plays_fine p hp
 have hword : ∀ x ∈ p, wordW (playsB s.e s.sc s.rl) x ≠ 1 := fun x hx => word_play hp hx
 have hpin : decide (p ∈ playsB s.e s.sc s.rl) = true := decide_eq_true hp
 have hwl : (wordsB s.sc.length (playsB s.e s.sc s.rl)).length = s.sc.length := words_len _ _
 have hdp : decIs1 (.sl .a (p.map ii)) = some p := decIs1_enc rfl
 have hcp := closedL_is p
 have hdr2 : decIs1 (.sl .a (r.map ii)) = some r := decIs1_enc rfl
 have hcr2 := closedL_is r
 have hwc := closedL_is (wordsB s.sc.length (playsB s.e s.sc s.rl))
 have hpl : p.length ≤ 100000 := by omega
 have hrl2 : r.length ≤ 100000 := by omega
 have g70 : ¬ (70 : Int) < (r.length : Int) := by omega
 have n00 : ((0 : Int) != 0) = false := rfl
 have n1 : ¬ n < 1 := by omega
 have hrm : rs.length ≤ maxLen := by unfold maxLen; omega
 have hpm : p.length ≤ maxLen := by unfold maxLen; omega
 generalize playsB s.e s.sc s.rl = P at *
 repeat (with_reducible (first | ((fail_if_success (refine RunQ.seq (x := .region 10 _ _) ?_)); (apply nx)) | apply wQ rfl | ((first | apply wV | apply wW | apply wX | (apply wy (cfN1_ok hk); (focus kernel_rfl))); (focus (simp only [Tryz.f3, cfN1, cfM1, cfLc, cfLb, cfLa, c19, c20, c22, c23, c24, c25, c26, hd, hdr, hcr, hl', hrl, hv, hdp, hcp, h0, hst, h1, h2, hP, hW, hR, hS, gt_iff_lt, List.length_map, go_sem]; rfl))) | ((fail_if_success (show RunQ _ (.region 10 _ _) _ _)); (refine wz (cfN1_ok hk) ?_)) | (refine wa ?_; refine And.intro ?_ ?_; (focus kernel_rfl))))
 refine RunQ.keep [14, 13, 12, 11, 10, 9, 8, 7, 5, 2, 1] (by simp only [go_sem]; rfl) ?_
 refine RunQ.join (k0 := 1) ⟨[(119, .bool false), (13, .sl .a ((wordsB s.sc.length P).map ii)), (11, .sl .a (r.map ii)), (5, .sl .a (p.map ii)), (2, .bp 0 0)], 149, [.var s.cells false]⟩ rfl ?_ ?_
 ·by_cases hn : n = 1
  ·have hrr : decide (rs = r) = true := decide_eq_true (hone hn)
   have hnb : (n == 1) = true := by rw [hn]; rfl
   repeat (with_reducible (first | apply nx | apply wQ rfl | ((first | apply wV | apply wW | apply wX | (apply wy (cfN1_ok hk); (focus kernel_rfl))); (focus (simp only [Tryz.f3, cfN1, cfM1, cfLc, cfLb, cfLa, c27, c28, c29s, hPd, hPc, hPa, hPl, hdp, hcp, hdr, hcr, hdr2, hcr2, hrl, hrm, g40, g70, n00, n1, hnb, hso, hrr, hpin, hwl, bne_self_eq_false, gt_iff_lt, List.length_map, go_sem]; rfl))) | refine wz (cfN1_ok hk) ?_ | (refine wa ?_; refine And.intro ?_ ?_; (focus kernel_rfl))))
   exact ⟨rfl, Back.keep [119, 13, 11, 5, 2] (by simp only [go_sem])⟩
  ·have hnb : (n == 1) = false := beq_eq_false_iff_ne.2 hn
   repeat (with_reducible (first | apply nx | apply wQ rfl | ((first | apply wV | apply wW | apply wX | (apply wy (cfN1_ok hk); (focus kernel_rfl))); (focus (simp only [Tryz.f3, cfN1, cfM1, cfLc, cfLb, cfLa, c27, c28, c29s, hPd, hPc, hPa, hPl, hdp, hcp, hdr, hcr, hdr2, hcr2, hrl, hrm, g40, g70, n00, n1, hnb, hso, hpin, hwl, bne_self_eq_false, gt_iff_lt, List.length_map, go_sem]; rfl))) | refine wz (cfN1_ok hk) ?_ | (refine wa ?_; refine And.intro ?_ ?_; (focus kernel_rfl))))
   exact ⟨rfl, Back.keep [119, 13, 11, 5, 2] (by simp only [go_sem])⟩
 repeat (with_reducible (first | apply nx | apply wQ rfl | ((first | apply wV | apply wW | apply wX | (apply wy cf0_ok; (focus kernel_rfl))); (focus (simp only [Tryz.f3, go_sem]; rfl))) | refine wz cf0_ok ?_ | (refine wa ?_; refine And.intro ?_ ?_; (focus kernel_rfl))))
 refine RunQ.keep [15, 13, 11, 5, 2] (by simp only [go_sem]; rfl) ?_
 refine RunQ.loop (fun i s' => s' = ⟨[(15, ii (i : Nat)), (13, .sl .a ((wordsB s.sc.length P).map ii)), (11, .sl .a (r.map ii)), (5, .sl .a (p.map ii)), (2, .bp 0 0)], 149, [.var s.cells false]⟩) p.length (by simp only [go_sem]) ?_
 rintro i _ hi rfl
 by_cases hlt : i < p.length
 ·obtain ⟨x, hx⟩ : ∃ x, p[i]? = some x := ⟨_, List.getElem?_eq_getElem hlt⟩
  have hxm := List.mem_of_getElem? hx
  have hx0 := hpf.2.2 x hxm
  obtain ⟨m, rfl⟩ : ∃ m : Nat, x = (m : Int) := ⟨x.toNat, by omega⟩
  have hx' : (p.map ii)[i]? = some (ii (m : Nat)) := map_get hx
  have hlt' : (i : Int) < p.length := by omega
  have hmk : (m : Int) < s.sc.length := by omega
  have hw : (wordsB s.sc.length P)[m]? = some (wordW P (m : Nat)) := by
   unfold wordsB
   rw [List.getElem?_map, List.getElem?_range (by omega)]
   rfl
  have hw' : ((wordsB s.sc.length P).map ii)[m]? = some (ii (wordW P (m : Nat))) := map_get hw
  have hw1 : (wordW P (m : Int) == 1) = false := beq_eq_false_iff_ne.2 (hword _ hxm)
  have e4 : IntKind.i64.wrap ((i : Int) + 1) = ((i + 1 : Nat) : Int) := wrap_id (by omega) (by omega)
  repeat (with_reducible (first | apply nx | apply wQ rfl | ((first | apply wV | apply wW | apply wX | (apply wy cf0_ok; (focus kernel_rfl))); (focus (simp only [Tryz.f3, hx', hlt', hmk, hw', hw1, hwl, e4, List.length_map, go_sem]; rfl))) | refine wz cf0_ok ?_ | (refine wa ?_; refine And.intro ?_ ?_; (focus kernel_rfl))))
  refine roundQ.t 1 [15, 13, 11, 5, 2] hlt (by simp only [ltB_sns, ltB_rzs, ltB_is, ltB_sl, go_sem]) (by simp only [go_sem])
 ·have hlt' : ¬ (i : Int) < p.length := by omega
  have hpp : decide (p = p) = true := decide_eq_true rfl
  repeat (with_reducible (first | apply nx | apply wQ rfl | ((first | apply wV | apply wW | apply wX | (apply wy (cfN1_ok hk); (focus kernel_rfl))); (focus (simp only [Tryz.f3, cfN1, cfM1, cfLc, cfLb, cfLa, c21, c22, c29s, hd, hst, h1, h2, hlt', hdr2, hcr2, hrl2, hv2, hdp, hcp, hpm, hpp, List.length_map, go_sem]; rfl))) | refine wz (cfN1_ok hk) ?_ | (refine wa ?_; refine And.intro ?_ ?_; (focus kernel_rfl))))
  exact ⟨rfl, rfl, _, rfl, rfl⟩
end Go.Pv
