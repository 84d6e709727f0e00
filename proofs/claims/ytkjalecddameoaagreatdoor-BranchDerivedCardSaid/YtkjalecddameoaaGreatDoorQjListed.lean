/- The law BranchListed: its function returns true, whatever it is given. -/
import Derived.Test.YtkjalecddameoaaGreatDoorQjPlays
set_option linter.all false
namespace Go.Pv
open Go Go.RowKit Go.Proofs
set_option maxRecDepth 200000
set_option maxHeartbeats 8000000
def cfM1 : CallF := cfAdd (cfAdd cfLc 27 c27) 28 c28
theorem cfM1_ok (hk : ConOk Tryz.prog 21 c21) : CallFOk Tryz.prog cfM1 := cfAdd_ok (cfAdd_ok (cfLc_ok hk) c27_ok) c28_ok
theorem are_play {s : Sty} (hst : s.story = true) {p : List Int} (hp : p ∈ playsB s.e s.sc s.rl) : areB s.sc.length p 0 = true := by
 have := (Sty.story_ok hst).plays_fine p hp
 unfold areB
 rw [decide_eq_true this.2.1, Bool.true_and, List.all_eq_true]
 exact fun x hx => inB_iff.2 (by have := this.2.2 x hx; omega)
theorem law_listed (hk : ConOk Tryz.prog 21 c21) (s : Sty) (hok : s.ok = true) (z : Z) (p : List Int) (hz : zOk z (p.map ii) = true) : CallOk Tryz.prog 5 [.agg s.cells, .sl z (p.map ii)] [] (.ret (.bool true)) [] := by
 refine CallOk.of0 hTT Tryz.func5 rfl rfl ?_
 have hd := decSt_cells s hok
 have h1 := closedL_sns s.sc
 have h2 := closedL_rzs s.rz
 have hdp : decIs1 (.sl z (p.map ii)) = some p := decIs1_enc hz
 have hcp := closedL_is p
 cases h0 : shortB s
 ·repeat (with_reducible (first | apply nx | apply wQ rfl | ((first | apply wV | apply wW | apply wX | (apply wy (cfM1_ok hk); (focus kernel_rfl))); (focus (simp only [Tryz.f5, cfM1, cfLc, cfLb, cfLa, c19, c21, hd, h0, h1, h2, go_sem]; rfl))) | refine wz (cfM1_ok hk) ?_ | (refine wa ?_; refine And.intro ?_ ?_; (focus kernel_rfl))))
  exact ⟨rfl, rfl, _, rfl, rfl⟩
 cases hst : s.story
 ·repeat (with_reducible (first | apply nx | apply wQ rfl | ((first | apply wV | apply wW | apply wX | (apply wy (cfM1_ok hk); (focus kernel_rfl))); (focus (simp only [Tryz.f5, cfM1, cfLc, cfLb, cfLa, c19, c20, c21, hd, h0, hst, h1, h2, go_sem]; rfl))) | refine wz (cfM1_ok hk) ?_ | (refine wa ?_; refine And.intro ?_ ?_; (focus kernel_rfl))))
  exact ⟨rfl, rfl, _, rfl, rfl⟩
 by_cases hl : p.length ≤ 12
 case neg =>
  have hl' : decide (p.length ≤ 12) = false := decide_eq_false hl
  repeat (with_reducible (first | apply nx | apply wQ rfl | ((first | apply wV | apply wW | apply wX | (apply wy (cfM1_ok hk); (focus kernel_rfl))); (focus (simp only [Tryz.f5, cfM1, cfLc, cfLb, cfLa, c19, c20, c21, c30, hd, hdp, hcp, hl', h0, hst, h1, h2, go_sem]; rfl))) | refine wz (cfM1_ok hk) ?_ | (refine wa ?_; refine And.intro ?_ ?_; (focus kernel_rfl))))
  exact ⟨rfl, rfl, _, rfl, rfl⟩
 have hl' : decide (p.length ≤ 12) = true := decide_eq_true hl
 have hpl : p.length ≤ 100000 := by omega
 have hO := Sty.story_ok hst
 have k2 : s.sc.length ≤ 1000 := by have := hO.s8; omega
 cases ha : areB s.sc.length p 0
 ·repeat (with_reducible (first | apply nx | apply wQ rfl | ((first | apply wV | apply wW | apply wX | (apply wy (cfM1_ok hk); (focus kernel_rfl))); (focus (simp only [Tryz.f5, cfM1, cfLc, cfLb, cfLa, c19, c20, c21, c30, c34, hd, hdp, hcp, hl', hpl, h0, hst, k2, ha, h1, h2, go_sem]; rfl))) | refine wz (cfM1_ok hk) ?_ | (refine wa ?_; refine And.intro ?_ ?_; (focus kernel_rfl))))
  exact ⟨rfl, rfl, _, rfl, rfl⟩
 have hP : playsR s = .tuple [.sl (plZ (playsB s.e s.sc s.rl)) ((playsB s.e s.sc s.rl).map slx), ii 0] := by unfold playsR; rw [hst]; rfl
 have hPd := decSls_pls (playsB s.e s.sc s.rl)
 have hPc := closedL_slx (playsB s.e s.sc s.rl)
 have hPa := plays_all hst maxLen (by unfold maxLen; omega)
 have hP40 := plays_len_le hO
 have hPl : (playsB s.e s.sc s.rl).length ≤ 100000 := by omega
 have g40 : ¬ (40 : Int) < ((playsB s.e s.sc s.rl).length : Int) := by omega
 have n00 : ((0 : Int) != 0) = false := rfl
 have n55 : ((5 : Int) != 5) = false := rfl
 have n50 : ((5 : Int) != 0) = true := rfl
 have e50 : ((5 : Int) == 0) = false := rfl
 have btt : (true != true) = false := rfl
 have bff : (false != false) = false := rfl
 have hpo := hO.play_of (p := p)
 have hsum := hO.ways_sum
 have hrise := plays_rise ((ders s.e s.sc s.rl).map (·.2))
 have hrise : Rise (playsB s.e s.sc s.rl) := hrise
 have hfine := hO.plays_fine
 have hare := fun q (hq : q ∈ playsB s.e s.sc s.rl) => are_play hst hq
 have hww : ∀ q ∈ playsB s.e s.sc s.rl, ∃ m : Nat, m = (ofB (ders s.e s.sc s.rl) q).length ∧ 1 ≤ m ∧ waysR s q = .tuple [ii (m : Nat), ii 0] := fun q hq => by
  refine ⟨_, rfl, ?_, ?_⟩
  ·have := (hO.play_of (p := q)).1 hq
   exact List.length_pos_iff.2 this
  ·unfold waysR; rw [hst, hare q hq]; rfl
 have hcase : (decide (p ∈ playsB s.e s.sc s.rl) = false ∧ waysR s p = .tuple [ii 0, ii 0] ∧ rulesR s p = .tuple [.sl .n [], ii 5]) ∨ ∃ (n : Int) (r : List Int), 0 < n ∧ decide (p ∈ playsB s.e s.sc s.rl) = true ∧ waysR s p = .tuple [ii n, ii 0] ∧ rulesR s p = .tuple [.sl .a (r.map ii), ii 0] := by
  unfold waysR rulesR
  rw [hst, ha]
  cases ho : ofB (ders s.e s.sc s.rl) p with
  | nil => exact .inl ⟨decide_eq_false fun h => hpo.1 h ho, rfl, rfl⟩
  | cons d l => exact .inr ⟨((l.length + 1 : Nat) : Int), intsN d.1, by omega, decide_eq_true (hpo.2 (by rw [ho]; simp)), rfl, rfl⟩
 generalize playsB s.e s.sc s.rl = P at *
 obtain ⟨Sm, hSm⟩ : ∃ Sm : Nat → Nat, Sm = fun i => ((P.take i).map fun q => (ofB (ders s.e s.sc s.rl) q).length).sum := ⟨_, rfl⟩
 have hSn : Sm P.length ≤ 40 := by rw [hSm]; show ((P.take P.length).map _).sum ≤ 40; rw [List.take_length]; exact hsum
 have hSs : ∀ i q, P[i]? = some q → Sm (i + 1) = Sm i + (ofB (ders s.e s.sc s.rl) q).length := fun i q h => by
  rw [hSm]
  show ((P.take (i + 1)).map _).sum = _
  rw [List.take_add_one, h, List.map_append, List.sum_append]
  simp
 have hSle : ∀ i, Sm i ≤ 40 := fun i => by
  have e : P = P.take i ++ P.drop i := (List.take_append_drop i P).symm
  have : (P.map fun q => (ofB (ders s.e s.sc s.rl) q).length).sum = Sm i + ((P.drop i).map fun q => (ofB (ders s.e s.sc s.rl) q).length).sum := by
   rw [hSm]
   show _ = ((P.take i).map _).sum + _
   rw [← List.sum_append, ← List.map_append, ← e]
  omega
 have hS0 : Sm 0 = 0 := by rw [hSm]; rfl
 have hW : ∃ (n g : Int) (rv : PV), rv.closed = true ∧ waysR s p = .tuple [ii n, ii 0] ∧ rulesR s p = .tuple [rv, ii g] ∧ ((decide (p ∈ P) = false ∧ n = 0 ∧ g = 5) ∨ (decide (p ∈ P) = true ∧ 0 < n ∧ g = 0)) := by
  rcases hcase with ⟨c1, c2, c3⟩ | ⟨n, r, c0, c1, c2, c3⟩
  ·exact ⟨0, 5, _, rfl, c2, c3, .inl ⟨c1, rfl, rfl⟩⟩
  ·exact ⟨n, 0, .sl .a (r.map ii), by simp only [PV.closed]; exact closedL_is r, c2, c3, .inr ⟨c1, c0, rfl⟩⟩
 clear hcase
 obtain ⟨n, g, rv, hrv, hW, hR, hcase⟩ := hW
 repeat (with_reducible (first | ((fail_if_success (refine RunQ.seq (x := .region 6 _ _) ?_)); (apply nx)) | apply wQ rfl | ((first | apply wV | apply wW | apply wX | (apply wy (cfM1_ok hk); (focus kernel_rfl))); (focus (simp only [Tryz.f5, cfM1, cfLc, cfLb, cfLa, c19, c20, c23, c24, c25, c30, c34, hd, hdp, hcp, hl', hpl, h0, hst, k2, ha, h1, h2, hP, hW, hR, go_sem]; rfl))) | ((fail_if_success (show RunQ _ (.region 6 _ _) _ _)); (refine wz (cfM1_ok hk) ?_)) | (refine wa ?_; refine And.intro ?_ ?_; (focus kernel_rfl))))
 refine RunQ.keep [10, 8, 7, 6, 5, 2, 1] (by simp only [go_sem]; rfl) ?_
 refine RunQ.join (k0 := 1) ⟨[(85, .bool false), (5, .sl (plZ P) (P.map slx)), (2, .bp 0 0)], 151, [.var s.cells false]⟩ rfl ?_ ?_
 ·rcases hcase with ⟨c1, rfl, rfl⟩ | ⟨c1, c0, rfl⟩
  ·have l00 : ((0 : Int) < 0) = False := by simp
   repeat (with_reducible (first | apply nx | apply wQ rfl | ((first | apply wV | apply wW | apply wX | (apply wy (cfM1_ok hk); (focus kernel_rfl))); (focus (simp only [Tryz.f5, cfM1, c27, hPd, hPc, hPa, hPl, hdp, hcp, g40, n00, n50, n55, e50, btt, bff, c1, l00, gt_iff_lt, List.length_map, go_sem]; rfl))) | refine wz (cfM1_ok hk) ?_ | (refine wa ?_; refine And.intro ?_ ?_; (focus kernel_rfl))))
   exact ⟨rfl, Back.keep [85, 5, 2] (by simp only [go_sem])⟩
  ·repeat (with_reducible (first | apply nx | apply wQ rfl | ((first | apply wV | apply wW | apply wX | (apply wy (cfM1_ok hk); (focus kernel_rfl))); (focus (simp only [Tryz.f5, cfM1, c27, hPd, hPc, hPa, hPl, hdp, hcp, g40, n00, n50, n55, e50, btt, bff, c1, c0, gt_iff_lt, beq_self_eq_true, List.length_map, go_sem]; rfl))) | refine wz (cfM1_ok hk) ?_ | (refine wa ?_; refine And.intro ?_ ?_; (focus kernel_rfl))))
   exact ⟨rfl, Back.keep [85, 5, 2] (by simp only [go_sem])⟩
 repeat (with_reducible (first | apply nx | apply wQ rfl | ((first | apply wV | apply wW | apply wX | (apply wy cf0_ok; (focus kernel_rfl))); (focus (simp only [Tryz.f5, go_sem]; rfl))) | refine wz cf0_ok ?_ | (refine wa ?_; refine And.intro ?_ ?_; (focus kernel_rfl))))
 refine RunQ.keep [12, 11, 5, 2] (by simp only [go_sem]; rfl) ?_
 refine RunQ.loop (fun i s' => s' = ⟨[(12, ii (i : Nat)), (11, ii (Sm i : Nat)), (5, .sl (plZ P) (P.map slx)), (2, .bp 0 0)], 151, [.var s.cells false]⟩) P.length (by rw [hS0]; simp only [go_sem]) ?_
 rintro i _ hi rfl
 by_cases hlt : i < P.length
 ·obtain ⟨q, hq⟩ : ∃ q, P[i]? = some q := ⟨_, List.getElem?_eq_getElem hlt⟩
  have hq' : (P.map slx)[i]? = some (.sl .a (q.map ii)) := map_get hq
  have hqm := List.mem_of_getElem? hq
  have hlt' : (i : Int) < P.length := by omega
  have hzp : plZ P ≠ .n := fun e => by rw [plZ_n e] at hlt; simp at hlt
  have e4 : IntKind.i64.wrap ((i : Int) + 1) = ((i + 1 : Nat) : Int) := wrap_id (by omega) (by omega)
  have hqd : decIs1 (.sl .a (q.map ii)) = some q := decIs1_enc rfl
  have hqc := closedL_is q
  have hqf := hfine q hqm
  have hqa := hare q hqm
  have hql : q.length ≤ 100000 := by omega
  have hq0 : ((q.length : Int) == 0) = false := by rw [beq_eq_false_iff_ne]; omega
  obtain ⟨m, hm, hm1, hmw⟩ := hww q hqm
  have hs := hSs i q hq
  rw [← hm] at hs
  have hle := hSle (i + 1)
  have m1 : ¬ (m : Int) < 1 := by omega
  have m2 : ¬ (40 : Int) < (m : Int) := by omega
  have e5 : IntKind.i64.wrap ((Sm i : Int) + (m : Int)) = ((Sm (i + 1) : Nat) : Int) := by rw [wrap_id (by omega) (by omega), hs]; omega
  by_cases hi0 : i = 0
  ·have i0 : ¬ (0 : Int) < (i : Int) := by omega
   repeat (with_reducible (first | apply nx | apply wQ rfl | ((first | apply wV | apply wW | apply wX | (apply wy (cfM1_ok hk); (focus kernel_rfl))); (focus (simp only [Tryz.f5, cfM1, cfLc, cfLb, cfLa, c24, c34, hd, hq', hlt', hzp, hqd, hqc, hqa, hql, hq0, k2, h1, h2, hmw, n00, m1, m2, i0, e4, e5, gt_iff_lt, List.length_map, go_sem]; rfl))) | refine wz (cfM1_ok hk) ?_ | (refine wa ?_; refine And.intro ?_ ?_; (focus kernel_rfl))))
   refine roundQ.t 1 [12, 11, 5, 2] hlt (by simp only [ltB_sns, ltB_rzs, ltB_is, ltB_sl, ltBL_slx, go_sem]) (by simp only [go_sem])
  ·have i0 : (0 : Int) < (i : Int) := by omega
   obtain ⟨q1, hq1⟩ : ∃ q1, P[i - 1]? = some q1 := ⟨_, List.getElem?_eq_getElem (by omega)⟩
   have hq1' : (P.map slx)[i - 1]? = some (.sl .a (q1.map ii)) := map_get hq1
   have e6 : IntKind.i64.wrap ((i : Int) - 1) = ((i - 1 : Nat) : Int) := by rw [wrap_id (by omega) (by omega)]; omega
   have hi1 : ((i - 1 : Nat) : Int) < P.length := by omega
   have hqd1 : decIs1 (.sl .a (q1.map ii)) = some q1 := decIs1_enc rfl
   have hqc1 := closedL_is q1
   have hql1 : q1.length ≤ 100000 := by have := hfine q1 (List.mem_of_getElem? hq1); omega
   have hso : sooner q1 q = true := by
    have h3 := List.pairwise_iff_getElem.1 hrise (i - 1) i (by omega) (by omega) (by omega)
    rw [List.getElem?_eq_getElem (by omega)] at hq hq1
    rw [Option.some.injEq] at hq hq1
    rw [← hq, ← hq1]
    exact h3
   repeat (with_reducible (first | apply nx | apply wQ rfl | ((first | apply wV | apply wW | apply wX | (apply wy (cfM1_ok hk); (focus kernel_rfl))); (focus (simp only [Tryz.f5, cfM1, cfLc, cfLb, cfLa, c24, c28, c34, hd, hq', hlt', hzp, hqd, hqc, hqa, hql, hq0, hq1', e6, hi1, hqd1, hqc1, hql1, hso, k2, h1, h2, hmw, n00, m1, m2, i0, e4, e5, gt_iff_lt, List.length_map, go_sem]; rfl))) | refine wz (cfM1_ok hk) ?_ | (refine wa ?_; refine And.intro ?_ ?_; (focus kernel_rfl))))
   refine roundQ.t 1 [12, 11, 5, 2] hlt (by simp only [ltB_sns, ltB_rzs, ltB_is, ltB_sl, ltBL_slx, go_sem]) (by simp only [go_sem])
 ·have hlt' : ¬ (i : Int) < P.length := by omega
  obtain rfl : i = P.length := by omega
  have h41 : (Sm P.length : Int) ≤ 40 := by omega
  repeat (with_reducible (first | apply nx | apply wQ rfl | ((first | apply wV | apply wW | apply wX | (apply wy (cfM1_ok hk); (focus kernel_rfl))); (focus (simp only [Tryz.f5, cfM1, cfLc, cfLb, cfLa, c21, hlt', h41, List.length_map, go_sem]; rfl))) | refine wz (cfM1_ok hk) ?_ | (refine wa ?_; refine And.intro ?_ ?_; (focus kernel_rfl))))
  exact ⟨rfl, rfl, _, rfl, rfl⟩
end Go.Pv
