/- Contracts: Agrees of the reference, Follows of the program. -/
import Derived.Test.YtkjalecddameoaaGreatDoorQiAgr
import Derived.Test.YtkjalecddameoaaGreatDoorQhSo
set_option linter.all false
namespace Go.Pv
open Go Go.RowKit Go.Proofs
set_option maxRecDepth 200000
set_option maxHeartbeats 8000000
def cfR2 : CallF := cfAdd (cfAdd cf0 43 c43) 31 c31
theorem cfR2_ok : CallFOk Tryz.prog cfR2 := cfAdd_ok (cfAdd_ok cf0_ok c43_ok) c31_ok
theorem RAgrees_41 (s : Sty) (hok : s.ok = true) (hst : s.story = true) (z : Z) (q : List Int) (hz : zOk z (q.map ii) = true) : CallOk Tryz.prog 41 [.agg s.cells, .sl z (q.map ii)] [] (.ret (plsV (agreesB (playsB s.e s.sc s.rl) q))) [] := by
 refine CallOk.ofF hTT Tryz.func41 rfl rfl ?_
 have hd := decSt_cells s hok
 have h1 := closedL_sns s.sc
 have h2 := closedL_rzs s.rz
 have hdq : decIs1 (.sl z (q.map ii)) = some q := decIs1_enc hz
 have hcq := closedL_is q
 have hS := Sty.story_ok hst
 have h5 := closedL_slx (playsB s.e s.sc s.rl)
 have hP40 := plays_len_le hS
 have hfine := hS.plays_fine
 repeat (with_reducible (first | apply nx | apply wQ rfl | ((first | apply wV | apply wW | apply wX | (apply wy cfR2_ok; (focus kernel_rfl))); (focus (simp only [Tryz.f41, cfR2, c31, plsV_def, hd, hst, h1, h2, h5, List.length_map, go_sem]; rfl))) | refine wz cfR2_ok ?_ | (refine wa ?_; refine And.intro ?_ ?_; (focus kernel_rfl))))
 have hzn := plZ_n (l := playsB s.e s.sc s.rl)
 generalize plZ (playsB s.e s.sc s.rl) = zz at *
 generalize playsB s.e s.sc s.rl = P at *
 refine RunQ.keep [7, 6, 5, 1] (by simp only [go_sem]; rfl) ?_
 refine RunQ.nilRow 6 26 1 (by simp only [go_sem]) (by simp only [go_sem]; rfl) (by simp only [go_sem]; rfl) ?_
 refine RunQ.loop (fun i s' => s' = ⟨[(7, ii (i : Nat)), (6, .ms 1 (agreesB (P.take i) q).length), (5, .sl zz (P.map slx)), (1, .sl z (q.map ii))], 30, [.var s.cells false, .row (decide ((agreesB (P.take i) q).length = 0)) 26 1 ((agreesB (P.take i) q).map slx) false]⟩) P.length (by simp only [go_sem]; rfl) ?_
 rintro i _ hi rfl
 by_cases hlt : i < P.length
 ·obtain ⟨x, hx⟩ : ∃ x, P[i]? = some x := ⟨_, List.getElem?_eq_getElem hlt⟩
  have hx' : (P.map slx)[i]? = some (.sl .a (x.map ii)) := map_get hx
  have hlt' : (i : Int) < P.length := by omega
  have hzz : zz ≠ .n := fun e => by rw [hzn e] at hlt; simp at hlt
  have e4 : IntKind.i64.wrap ((i : Int) + 1) = ((i + 1 : Nat) : Int) := wrap_id (by omega) (by omega)
  have hdx : decIs1 (.sl .a (x.map ii)) = some x := decIs1_enc rfl
  have hcx := closedL_is x
  have hxl : x.length ≤ 100000 := by have := hfine x (List.mem_of_getElem? hx); omega
  have htk := agrees_take (q := q) hx
  have hMl : (agreesB (P.take i) q).length ≤ 40 := Nat.le_trans (agrees_len _ _) (by rw [List.length_take]; omega)
  generalize agreesB (P.take i) q = A at htk hMl ⊢
  cases hag : agrB x q
  ·rw [hag, if_neg (by simp), List.append_nil] at htk
   repeat (with_reducible (first | apply nx | apply wQ rfl | ((first | apply wV | apply wW | apply wX | (apply wy cfR2_ok; (focus kernel_rfl))); (focus (simp only [Tryz.f41, cfR2, c43, hx', hlt', hzz, hdx, hdq, hcx, hcq, hxl, hag, e4, List.length_map, go_sem]; rfl))) | refine wz cfR2_ok ?_ | (refine wa ?_; refine And.intro ?_ ?_; (focus kernel_rfl))))
   refine roundQ.t 2 [7, 6, 5, 1] hlt (by simp only [ltB_sns, ltB_rzs, ltB_is, ltB_sl, ltBL_slx, go_sem]) (by rw [htk]; simp only [go_sem])
  ·rw [hag, if_pos rfl] at htk
   have q1 : (A.length + 1) * 24 ≤ 140737488355328 := by omega
   have q2 : A.length + 1 ≤ maxLen := by unfold maxLen; omega
   have hl2 : ltBL 2 (A.map slx ++ [.sl .a (x.map ii)]) = true := by
    have := ltBL_slx 2 (A ++ [x])
    rw [List.map_append] at this
    exact this
   have hm2 : (A ++ [x]).map slx = A.map slx ++ [.sl .a (x.map ii)] := by rw [List.map_append]; rfl
   have hn2 : (A ++ [x]).length = A.length + 1 := by simp
   have hd1 : decide (A.length + 1 = 0) = false := by simp
   repeat (with_reducible (first | apply nx | apply wQ rfl | ((first | apply wV | apply wW | apply wX | (apply wy cfR2_ok; (focus kernel_rfl))); (focus (simp only [Tryz.f41, cfR2, c43, hx', hlt', hzz, hdx, hdq, hcx, hcq, hxl, hag, e4, q1, q2, List.length_map, go_sem]; rfl))) | refine wz cfR2_ok ?_ | (refine wa ?_; refine And.intro ?_ ?_; (focus kernel_rfl))))
   refine roundQ.t 2 [7, 6, 5, 1] hlt (by simp only [ltB_sns, ltB_rzs, ltB_is, ltB_sl, ltBL_slx, hl2, go_sem]) (by rw [htk, hm2, hn2, hd1]; simp only [go_sem])
 ·have hlt' : ¬ (i : Int) < P.length := by omega
  obtain rfl : i = P.length := by omega
  rw [List.take_length]
  repeat (with_reducible (first | apply nx | apply wQ rfl | ((first | apply wV | apply wW | apply wX | (apply wy cf0_ok; (focus kernel_rfl))); (focus (simp only [Tryz.f41, hlt', List.length_map, go_sem]; rfl))) | refine wz cf0_ok ?_ | (refine wa ?_; refine And.intro ?_ ?_; (focus kernel_rfl))))
  exact ⟨rfl, rfl, _, rfl, leave_row (id := 1) rfl (closedL_slx _) (by rw [List.length_map])⟩
def isV (l : List Int) : PV := .sl (if l.length = 0 then .n else .a) (l.map ii)
theorem isV_closed (l : List Int) : (isV l).closed = true := by simp only [isV, PV.closed]; exact closedL_is l
def followsR (s : Sty) (b : List Int) : PV := if (s.story && areB s.sc.length b 0) = true then .tuple [isV (follB s.sc.length (playsB s.e s.sc s.rl) b), ii 0] else .tuple [.sl .n [], ii 2]
theorem nexts_take {ps : List (List Int)} {b x : List Int} {i : Nat} (h : ps[i]? = some x) : nextsB (ps.take (i + 1)) b = nextsB (ps.take i) b ++ (if b.length < x.length ∧ x.take b.length = b then x[b.length]? else none).toList := by
 unfold nextsB
 rw [List.take_add_one, h, List.filterMap_append]
 congr 1
 all_goals
  show List.filterMap _ [x] = _
  rw [List.filterMap_cons]
  split <;> (rename_i e; rw [e]; rfl)
theorem nexts_len (ps : List (List Int)) (b : List Int) : (nextsB ps b).length ≤ ps.length := List.length_filterMap_le ..
theorem foll_sort {e : Int} {sc : List Sn} {rl : List Rl} (hS : StoryOk e sc rl) (b : List Int) : Lib.compact (sortI (nextsB (playsB e sc rl) b)) = follB sc.length (playsB e sc rl) b := by
 obtain ⟨h1, h2⟩ := comp_sort (nextsB (playsB e sc rl) b)
 refine foll_eq h1 h2 fun x hx => ?_
 obtain ⟨p, hp, _, _, hg⟩ := nexts_mem.1 hx
 have := (hS.plays_fine p hp).2.2 x (List.mem_of_getElem? hg)
 omega
theorem foll_nil {e : Int} {sc : List Sn} {rl : List Rl} (hS : StoryOk e sc rl) (b : List Int) : decide ((nextsB (playsB e sc rl) b).length = 0) = decide ((follB sc.length (playsB e sc rl) b).length = 0) := by
 rw [← foll_sort hS, decide_eq_decide, List.length_eq_zero_iff, List.length_eq_zero_iff]
 have h2 := (comp_sort (nextsB (playsB e sc rl) b)).2
 constructor
 ·intro h
  rw [List.eq_nil_iff_forall_not_mem]
  intro x hx
  have := (h2 x).1 hx
  rw [h] at this
  cases this
 ·intro h
  rw [List.eq_nil_iff_forall_not_mem]
  intro x hx
  have := (h2 x).2 hx
  rw [h] at this
  cases this
def cfR3 : CallF := cfAdd (cfAdd (cfAdd cfZ 95 c95) 96 c96) 97 c97f
theorem cfR3_ok : CallFOk Tryz.prog cfR3 := cfAdd_ok (cfAdd_ok (cfAdd_ok cfZ_ok c95_ok) c96_ok) c97f_ok
theorem Follows_37 (s : Sty) (hok : s.ok = true) (z : Z) (b : List Int) (hz : zOk z (b.map ii) = true) : CallOk Tryz.prog 37 [.agg s.cells, .sl z (b.map ii)] [] (.ret (followsR s b)) [] := by
 refine CallOk.ofF hTT Tryz.func37 rfl rfl ?_
 have hd := decSt_cells s hok
 have h1 := closedL_sns s.sc
 have h2 := closedL_rzs s.rz
 have hdq : decIs1 (.sl z (b.map ii)) = some b := decIs1_enc hz
 have hcq := closedL_is b
 unfold followsR
 cases hst : s.story
 ·repeat (with_reducible (first | apply nx | apply wQ rfl | ((first | apply wV | apply wW | apply wX | (apply wy cfR3_ok; (focus kernel_rfl))); (focus (simp only [Tryz.f37, cfR3, cfZ, c87, hd, hst, h1, h2, go_sem]; rfl))) | refine wz cfR3_ok ?_ | (refine wa ?_; refine And.intro ?_ ?_; (focus kernel_rfl))))
  exact ⟨rfl, rfl, _, rfl, leave_closed rfl⟩
 have hS := Sty.story_ok hst
 have h8 : s.sc.length ≤ 1000 := by have := hS.s8; omega
 cases ha : areB s.sc.length b 0
 ·repeat (with_reducible (first | apply nx | apply wQ rfl | ((first | apply wV | apply wW | apply wX | (apply wy cfR3_ok; (focus kernel_rfl))); (focus (simp only [Tryz.f37, cfR3, cfZ, c87, c90, hd, hst, hdq, hcq, ha, h1, h2, h8, go_sem]; rfl))) | refine wz cfR3_ok ?_ | (refine wa ?_; refine And.intro ?_ ?_; (focus kernel_rfl))))
  exact ⟨rfl, rfl, _, rfl, leave_closed rfl⟩
 have hbl : b.length ≤ 10 := by unfold areB at ha; rw [Bool.and_eq_true] at ha; exact of_decide_eq_true ha.1
 have hp := Sty.story_parts hst
 have hdt := decTl_told s hok hst
 have h3 := closedL_is s.mm
 have h4 := closedL_is s.ln
 have h5 := closedL_slx (playsB s.e s.sc s.rl)
 have hP40 := plays_len_le hS
 have hfine := hS.plays_fine
 have hfs := foll_sort hS b
 have hfn := foll_nil hS b
 have hcl := isV_closed (follB s.sc.length (playsB s.e s.sc s.rl) b)
 unfold isV at hcl ⊢
 repeat (with_reducible (first | apply nx | apply wQ rfl | ((first | apply wV | apply wW | apply wX | (apply wy cfR3_ok; (focus kernel_rfl))); (focus (simp only [Tryz.f37, cfR3, cfZ, c87, c88, c89, c90, plsV_def, hd, hst, hp, hdt, hdq, hcq, ha, h1, h2, h3, h4, h5, h8, List.length_map, go_sem]; rfl))) | refine wz cfR3_ok ?_ | (refine wa ?_; refine And.intro ?_ ?_; (focus kernel_rfl))))
 have hzn := plZ_n (l := playsB s.e s.sc s.rl)
 generalize plZ (playsB s.e s.sc s.rl) = zz at *
 generalize playsB s.e s.sc s.rl = P at *
 generalize follB s.sc.length P b = F at *
 refine RunQ.keep [25, 24, 23, 7, 6, 1] (by simp only [go_sem]; rfl) ?_
 refine RunQ.nilRow 7 3 1 (by simp only [go_sem]) (by simp only [go_sem]; rfl) (by simp only [go_sem]; rfl) ?_
 refine RunQ.loop (fun i s' => s' = ⟨[(25, ii (i : Nat)), (24, ii (P.length : Nat)), (23, .sl zz (P.map slx)), (7, .ms 1 (nextsB (P.take i) b).length), (6, ii (b.length : Nat)), (1, .sl z (b.map ii))], 52, [.var s.cells false, .row (decide ((nextsB (P.take i) b).length = 0)) 3 1 ((nextsB (P.take i) b).map ii) false]⟩) P.length (by simp only [go_sem]; rfl) ?_
 rintro i _ hi rfl
 by_cases hlt : i < P.length
 ·obtain ⟨x, hx⟩ : ∃ x, P[i]? = some x := ⟨_, List.getElem?_eq_getElem hlt⟩
  have hx' : (P.map slx)[i]? = some (.sl .a (x.map ii)) := map_get hx
  have hlt' : (i : Int) < P.length := by omega
  have hzz : zz ≠ .n := fun e => by rw [hzn e] at hlt; simp at hlt
  have e4 : IntKind.i64.wrap ((i : Int) + 1) = ((i + 1 : Nat) : Int) := wrap_id (by omega) (by omega)
  have hcx := closedL_is x
  have hxl : x.length ≤ 100000 := by have := hfine x (List.mem_of_getElem? hx); omega
  have htk := nexts_take (b := b) hx
  have hMl : (nextsB (P.take i) b).length ≤ 40 := Nat.le_trans (nexts_len _ _) (by rw [List.length_take]; omega)
  generalize nextsB (P.take i) b = A at htk hMl ⊢
  by_cases hlen : b.length < x.length
  ·have hlen' : ((b.length : Nat) : Int) < (x.length : Int) := by omega
   have r0 : (0 : Int) ≤ (b.length : Nat) := by omega
   have r1 : ((b.length : Nat) : Int) ≤ (x.length : Int) := by omega
   have ht1 : List.take b.length (x.map ii) = (x.take b.length).map ii := List.map_take.symm
   have hdx : decIs1 (.sl .a ((x.take b.length).map ii)) = some (x.take b.length) := decIs1_enc rfl
   have hct := closedL_is (x.take b.length)
   have htl : min b.length x.length ≤ maxLen := by unfold maxLen; omega
   by_cases heq : x.take b.length = b
   ·obtain ⟨y, hy⟩ : ∃ y, x[b.length]? = some y := ⟨_, List.getElem?_eq_getElem hlen⟩
    have hy' : (x.map ii)[b.length]? = some (ii y) := map_get hy
    have hde : decide (x.take b.length = b) = true := decide_eq_true heq
    rw [if_pos ⟨hlen, heq⟩, hy] at htk
    have htk : nextsB (P.take (i + 1)) b = A ++ [y] := htk
    have q1 : (A.length + 1) * 8 ≤ 140737488355328 := by omega
    have q2 : A.length + 1 ≤ maxLen := by unfold maxLen; omega
    have hl2 : ltBL 2 (A.map ii ++ [PV.int .i64 y]) = true := by
     have := ltB_is 2 (A ++ [y])
     rw [List.map_append] at this
     exact this
    have hm2 : (A ++ [y]).map ii = A.map ii ++ [PV.int .i64 y] := by rw [List.map_append]; rfl
    have hn2 : (A ++ [y]).length = A.length + 1 := by simp
    have hd1 : decide (A.length + 1 = 0) = false := by simp
    repeat (with_reducible (first | apply nx | apply wQ rfl | ((first | apply wV | apply wW | apply wX | (apply wy cfR3_ok; (focus kernel_rfl))); (focus (simp only [Tryz.f37, cfR3, cfZ, c95, hx', hlt', hzz, hlen', r0, r1, ht1, all_mi, all_t, hdx, hct, htl, hdq, hcx, hcq, hxl, hde, hy', e4, q1, q2, gt_iff_lt, List.length_map, go_sem]; rfl))) | refine wz cfR3_ok ?_ | (refine wa ?_; refine And.intro ?_ ?_; (focus kernel_rfl))))
    refine roundQ.t 2 [25, 24, 23, 7, 6, 1] hlt (by simp only [ltB_sns, ltB_rzs, ltB_is, ltB_sl, ltBL_slx, hl2, go_sem]) (by rw [htk, hm2, hn2, hd1]; simp only [go_sem])
   ·have hde : decide (x.take b.length = b) = false := decide_eq_false heq
    rw [if_neg (fun h => heq h.2)] at htk
    have htk : nextsB (P.take (i + 1)) b = A := by rw [htk]; exact List.append_nil _
    repeat (with_reducible (first | apply nx | apply wQ rfl | ((first | apply wV | apply wW | apply wX | (apply wy cfR3_ok; (focus kernel_rfl))); (focus (simp only [Tryz.f37, cfR3, cfZ, c95, hx', hlt', hzz, hlen', r0, r1, ht1, all_mi, all_t, hdx, hct, htl, hdq, hcx, hcq, hxl, hde, e4, gt_iff_lt, List.length_map, go_sem]; rfl))) | refine wz cfR3_ok ?_ | (refine wa ?_; refine And.intro ?_ ?_; (focus kernel_rfl))))
    refine roundQ.t 2 [25, 24, 23, 7, 6, 1] hlt (by simp only [ltB_sns, ltB_rzs, ltB_is, ltB_sl, ltBL_slx, go_sem]) (by rw [htk]; simp only [go_sem])
  ·have hlen' : ¬ ((b.length : Nat) : Int) < (x.length : Int) := by omega
   rw [if_neg (fun h => hlen h.1)] at htk
   have htk : nextsB (P.take (i + 1)) b = A := by rw [htk]; exact List.append_nil _
   repeat (with_reducible (first | apply nx | apply wQ rfl | ((first | apply wV | apply wW | apply wX | (apply wy cfR3_ok; (focus kernel_rfl))); (focus (simp only [Tryz.f37, cfR3, hx', hlt', hzz, hlen', hcx, e4, gt_iff_lt, List.length_map, go_sem]; rfl))) | refine wz cfR3_ok ?_ | (refine wa ?_; refine And.intro ?_ ?_; (focus kernel_rfl))))
   refine roundQ.t 2 [25, 24, 23, 7, 6, 1] hlt (by simp only [ltB_sns, ltB_rzs, ltB_is, ltB_sl, ltBL_slx, go_sem]) (by rw [htk]; simp only [go_sem])
 ·have hlt' : ¬ (i : Int) < P.length := by omega
  obtain rfl : i = P.length := by omega
  rw [List.take_length]
  have hnl : (nextsB P b).length ≤ 100000 := Nat.le_trans (nexts_len _ _) (by omega)
  have hdn := decIs (nextsB P b)
  have hds := decIs (sortI (nextsB P b))
  have hsl := sortI_len (nextsB P b)
  have hcm : (decide (F.length = 0) && !decide (F.length = 0)) = false := by cases decide (F.length = 0) <;> rfl
  repeat (with_reducible (first | apply nx | apply wQ rfl | ((first | apply wV | apply wW | apply wX | (apply wy cfR3_ok; (focus kernel_rfl))); (focus (simp only [Tryz.f37, cfR3, cfZ, c96, c97f, hlt', hnl, hdn, hds, hsl, hcm, hfs, hfn, List.length_map, go_sem]; rfl))) | refine wz cfR3_ok ?_ | (refine wa ?_; refine And.intro ?_ ?_; (focus kernel_rfl))))
  exact ⟨rfl, rfl, _, rfl, leave_closed (by simp [tup, PV.closed, closedL, closedL_is])⟩
end Go.Pv
namespace Go.Pv
open Go Go.RowKit Go.Proofs
set_option maxRecDepth 200000
set_option maxHeartbeats 8000000
theorem foll_succ (k : Nat) (ps : List (List Int)) (b : List Int) : follB (k + 1) ps b = follB k ps b ++ if (k : Int) ∈ nextsB ps b then [(k : Int)] else [] := by
 unfold follB
 rw [List.range_succ, List.map_append, List.filter_append]
 congr 1
 by_cases h : (k : Int) ∈ nextsB ps b
 ·rw [if_pos h]; simp [h]
 ·rw [if_neg h]; simp [h]
theorem isV_eq (l : List Int) : isV l = .sl (if decide (l.length = 0) = true then .n else .a) (l.map ii) := by unfold isV; simp only [decide_eq_true_eq]
def cfS1 : CallF := cfAdd (cfAdd cf0 31 c31) 29 c29s
theorem cfS1_ok : CallFOk Tryz.prog cfS1 := cfAdd_ok (cfAdd_ok cf0_ok c31_ok) c29s_ok
theorem RFollows_39 (s : Sty) (hok : s.ok = true) (hst : s.story = true) (z : Z) (b : List Int) (hz : zOk z (b.map ii) = true) (hbl : b.length ≤ 100000) : CallOk Tryz.prog 39 [.agg s.cells, .sl z (b.map ii)] [] (.ret (isV (follB s.sc.length (playsB s.e s.sc s.rl) b))) [] := by
 refine CallOk.ofF hTT Tryz.func39 rfl rfl ?_
 have hd := decSt_cells s hok
 have h1 := closedL_sns s.sc
 have h2 := closedL_rzs s.rz
 have hdq : decIs1 (.sl z (b.map ii)) = some b := decIs1_enc hz
 have hcq := closedL_is b
 have hS := Sty.story_ok hst
 have h8 : s.sc.length ≤ 1000 := by have := hS.s8; omega
 have h5 := closedL_slx (playsB s.e s.sc s.rl)
 have hP40 := plays_len_le hS
 have hfine := hS.plays_fine
 repeat (with_reducible (first | apply nx | apply wQ rfl | ((first | apply wV | apply wW | apply wX | (apply wy cfS1_ok; (focus kernel_rfl))); (focus (simp only [Tryz.f39, cfS1, c31, plsV_def, hd, hst, h1, h2, h5, List.length_map, go_sem]; rfl))) | refine wz cfS1_ok ?_ | (refine wa ?_; refine And.intro ?_ ?_; (focus kernel_rfl))))
 have hzn := plZ_n (l := playsB s.e s.sc s.rl)
 generalize plZ (playsB s.e s.sc s.rl) = zz at *
 generalize playsB s.e s.sc s.rl = P at *
 refine RunQ.keep [7, 6, 5, 2, 1] (by simp only [go_sem]; rfl) ?_
 refine RunQ.nilRow 6 3 1 (by simp only [go_sem]) (by simp only [go_sem]; rfl) (by simp only [go_sem]; rfl) ?_
 refine RunQ.loop (fun i s' => s' = ⟨[(7, ii (i : Nat)), (6, .ms 1 (follB i P b).length), (5, .sl zz (P.map slx)), (2, .bp 0 0), (1, .sl z (b.map ii))], 62, [.var s.cells false, .row (decide ((follB i P b).length = 0)) 3 1 ((follB i P b).map ii) false]⟩) s.sc.length (by simp only [go_sem]; rfl) ?_
 rintro i _ hi rfl
 by_cases hlt : i < s.sc.length
 ·have hlt' : (i : Int) < s.sc.length := by omega
  have hsu := foll_succ i P b
  have hMl := foll_len i P b
  generalize follB i P b = A at hsu hMl ⊢
  have e4 : IntKind.i64.wrap ((i : Int) + 1) = ((i + 1 : Nat) : Int) := wrap_id (by omega) (by omega)
  repeat (with_reducible (first | apply nx | apply wQ rfl | ((first | apply wV | apply wW | apply wX | (apply wy cf0_ok; (focus kernel_rfl))); (focus (simp only [Tryz.f39, hlt', List.length_map, go_sem]; rfl))) | refine wz cf0_ok ?_ | (refine wa ?_; refine And.intro ?_ ?_; (focus kernel_rfl))))
  refine RunQ.keep [9, 8, 7, 6, 5, 2, 1] (by simp only [go_sem]; rfl) ?_
  refine RunQ.loop (fun j s' => s' = ⟨[(9, ii (j : Nat)), (8, .bool (decide ((i : Int) ∈ nextsB (P.take j) b))), (7, ii (i : Nat)), (6, .ms 1 A.length), (5, .sl zz (P.map slx)), (2, .bp 0 0), (1, .sl z (b.map ii))], 62, [.var s.cells false, .row (decide (A.length = 0)) 3 1 (A.map ii) false]⟩) P.length (by simp only [go_sem]; rfl) ?_
  rintro j _ hj rfl
  by_cases hjl : j < P.length
  ·obtain ⟨x, hx⟩ : ∃ x, P[j]? = some x := ⟨_, List.getElem?_eq_getElem hjl⟩
   have hx' : (P.map slx)[j]? = some (.sl .a (x.map ii)) := map_get hx
   have hjl' : (j : Int) < P.length := by omega
   have hzz : zz ≠ .n := fun e => by rw [hzn e] at hjl; simp at hjl
   have e5 : IntKind.i64.wrap ((j : Int) + 1) = ((j + 1 : Nat) : Int) := wrap_id (by omega) (by omega)
   have hxl : x.length ≤ 100000 := by have := hfine x (List.mem_of_getElem? hx); omega
   have htk := nexts_take (b := b) hx
   generalize nextsB (P.take j) b = N at htk ⊢
   by_cases hlen : b.length < x.length
   ·have hlen' : ((b.length : Nat) : Int) < (x.length : Int) := by omega
    have r0 : (0 : Int) ≤ (b.length : Nat) := by omega
    have r1 : ((b.length : Nat) : Int) ≤ (x.length : Int) := by omega
    have ht1 : List.take b.length (x.map ii) = (x.take b.length).map ii := List.map_take.symm
    have hdx : decIs1 (.sl .a ((x.take b.length).map ii)) = some (x.take b.length) := decIs1_enc rfl
    have hct := closedL_is (x.take b.length)
    have htl : min b.length x.length ≤ maxLen := by unfold maxLen; omega
    by_cases heq : x.take b.length = b
    ·obtain ⟨y, hy⟩ : ∃ y, x[b.length]? = some y := ⟨_, List.getElem?_eq_getElem hlen⟩
     have hy' : (x.map ii)[b.length]? = some (ii y) := map_get hy
     have hde : decide (x.take b.length = b) = true := decide_eq_true heq
     rw [if_pos ⟨hlen, heq⟩, hy] at htk
     have htk : nextsB (P.take (j + 1)) b = N ++ [y] := htk
     by_cases hyi : y = (i : Int)
     ·have hyb : (y == (i : Int)) = true := by rw [hyi]; exact beq_self_eq_true _
      have hdt : decide ((i : Int) ∈ nextsB (P.take (j + 1)) b) = true := by rw [htk, hyi]; exact decide_eq_true (List.mem_append_right _ (List.mem_singleton.2 rfl))
      repeat (with_reducible (first | apply nx | apply wQ rfl | ((first | apply wV | apply wW | apply wX | (apply wy cfS1_ok; (focus kernel_rfl))); (focus (simp only [Tryz.f39, cfS1, c29s, hx', hjl', hzz, hlen', r0, r1, ht1, all_mi, all_t, hdx, hct, htl, hdq, hcq, hxl, hde, hy', hyb, e5, gt_iff_lt, List.length_map, go_sem]; rfl))) | refine wz cfS1_ok ?_ | (refine wa ?_; refine And.intro ?_ ?_; (focus kernel_rfl))))
      refine roundQ.t 2 [9, 8, 7, 6, 5, 2, 1] hjl (by simp only [ltB_sns, ltB_rzs, ltB_is, ltB_sl, ltBL_slx, go_sem]) (by rw [hdt]; simp only [go_sem])
     ·have hyb : (y == (i : Int)) = false := beq_eq_false_iff_ne.2 hyi
      have hdt : decide ((i : Int) ∈ nextsB (P.take (j + 1)) b) = decide ((i : Int) ∈ N) := by
       rw [htk, decide_eq_decide, List.mem_append, List.mem_singleton]
       exact ⟨fun h => h.resolve_right (fun e => hyi e.symm), .inl⟩
      repeat (with_reducible (first | apply nx | apply wQ rfl | ((first | apply wV | apply wW | apply wX | (apply wy cfS1_ok; (focus kernel_rfl))); (focus (simp only [Tryz.f39, cfS1, c29s, hx', hjl', hzz, hlen', r0, r1, ht1, all_mi, all_t, hdx, hct, htl, hdq, hcq, hxl, hde, hy', hyb, e5, gt_iff_lt, List.length_map, go_sem]; rfl))) | refine wz cfS1_ok ?_ | (refine wa ?_; refine And.intro ?_ ?_; (focus kernel_rfl))))
      refine roundQ.t 2 [9, 8, 7, 6, 5, 2, 1] hjl (by simp only [ltB_sns, ltB_rzs, ltB_is, ltB_sl, ltBL_slx, go_sem]) (by rw [hdt]; simp only [go_sem])
    ·have hde : decide (x.take b.length = b) = false := decide_eq_false heq
     rw [if_neg (fun h => heq h.2)] at htk
     have htk : nextsB (P.take (j + 1)) b = N := by rw [htk]; exact List.append_nil _
     repeat (with_reducible (first | apply nx | apply wQ rfl | ((first | apply wV | apply wW | apply wX | (apply wy cfS1_ok; (focus kernel_rfl))); (focus (simp only [Tryz.f39, cfS1, c29s, hx', hjl', hzz, hlen', r0, r1, ht1, all_mi, all_t, hdx, hct, htl, hdq, hcq, hxl, hde, e5, gt_iff_lt, List.length_map, go_sem]; rfl))) | refine wz cfS1_ok ?_ | (refine wa ?_; refine And.intro ?_ ?_; (focus kernel_rfl))))
     refine roundQ.t 2 [9, 8, 7, 6, 5, 2, 1] hjl (by simp only [ltB_sns, ltB_rzs, ltB_is, ltB_sl, ltBL_slx, go_sem]) (by rw [htk]; simp only [go_sem])
   ·have hlen' : ¬ ((b.length : Nat) : Int) < (x.length : Int) := by omega
    rw [if_neg (fun h => hlen h.1)] at htk
    have htk : nextsB (P.take (j + 1)) b = N := by rw [htk]; exact List.append_nil _
    repeat (with_reducible (first | apply nx | apply wQ rfl | ((first | apply wV | apply wW | apply wX | (apply wy cf0_ok; (focus kernel_rfl))); (focus (simp only [Tryz.f39, hx', hjl', hzz, hlen', e5, gt_iff_lt, List.length_map, go_sem]; rfl))) | refine wz cf0_ok ?_ | (refine wa ?_; refine And.intro ?_ ?_; (focus kernel_rfl))))
    refine roundQ.t 2 [9, 8, 7, 6, 5, 2, 1] hjl (by simp only [ltB_sns, ltB_rzs, ltB_is, ltB_sl, ltBL_slx, go_sem]) (by rw [htk]; simp only [go_sem])
  ·have hjl' : ¬ (j : Int) < P.length := by omega
   obtain rfl : j = P.length := by omega
   rw [List.take_length]
   by_cases hin : (i : Int) ∈ nextsB P b
   ·rw [if_pos hin] at hsu
    have hdi : decide ((i : Int) ∈ nextsB P b) = true := decide_eq_true hin
    have q1 : (A.length + 1) * 8 ≤ 140737488355328 := by omega
    have q2 : A.length + 1 ≤ maxLen := by unfold maxLen; omega
    have hl2 : ltBL 2 (A.map ii ++ [PV.int .i64 (i : Nat)]) = true := by
     have := ltB_is 2 (A ++ [(i : Int)])
     rw [List.map_append] at this
     exact this
    have hm2 : (A ++ [(i : Int)]).map ii = A.map ii ++ [PV.int .i64 (i : Nat)] := by rw [List.map_append]; rfl
    have hn2 : (A ++ [(i : Int)]).length = A.length + 1 := by simp
    have hd1 : decide (A.length + 1 = 0) = false := by simp
    repeat (with_reducible (first | apply nx | apply wQ rfl | ((first | apply wV | apply wW | apply wX | (apply wy cf0_ok; (focus kernel_rfl))); (focus (simp only [Tryz.f39, hjl', hdi, e4, q1, q2, List.length_map, go_sem]; rfl))) | refine wz cf0_ok ?_ | (refine wa ?_; refine And.intro ?_ ?_; (focus kernel_rfl))))
    refine roundQ.t 2 [7, 6, 5, 2, 1] hlt (by simp only [ltB_sns, ltB_rzs, ltB_is, ltB_sl, ltBL_slx, hl2, go_sem]) (by rw [hsu, hm2, hn2, hd1]; simp only [go_sem])
   ·rw [if_neg hin, List.append_nil] at hsu
    have hdi : decide ((i : Int) ∈ nextsB P b) = false := decide_eq_false hin
    repeat (with_reducible (first | apply nx | apply wQ rfl | ((first | apply wV | apply wW | apply wX | (apply wy cf0_ok; (focus kernel_rfl))); (focus (simp only [Tryz.f39, hjl', hdi, e4, List.length_map, go_sem]; rfl))) | refine wz cf0_ok ?_ | (refine wa ?_; refine And.intro ?_ ?_; (focus kernel_rfl))))
    refine roundQ.t 2 [7, 6, 5, 2, 1] hlt (by simp only [ltB_sns, ltB_rzs, ltB_is, ltB_sl, ltBL_slx, go_sem]) (by rw [hsu]; simp only [go_sem])
 ·have hlt' : ¬ (i : Int) < s.sc.length := by omega
  obtain rfl : i = s.sc.length := by omega
  repeat (with_reducible (first | apply nx | apply wQ rfl | ((first | apply wV | apply wW | apply wX | (apply wy cf0_ok; (focus kernel_rfl))); (focus (simp only [Tryz.f39, hlt', List.length_map, go_sem]; rfl))) | refine wz cf0_ok ?_ | (refine wa ?_; refine And.intro ?_ ?_; (focus kernel_rfl))))
  rw [isV_eq]
  exact ⟨rfl, rfl, _, rfl, leave_row (id := 1) rfl (closedL_is _) (by rw [List.length_map])⟩
def c37 : List PV → List Box → Option (PRes × List Box)
 | [v, w], sg => match decSt v, decIs1 w with
  | some s, some p => some (.ret (followsR s p), sg)
  | _, _ => none
 | _, _ => none
theorem c37_ok : ConOk Tryz.prog 37 c37 := ConOk.of0 (ent Tryz.func37 rfl) fun args sg r sg' h => by
 unfold c37 at h
 split at h <;> try (cases h; done)
 split at h <;> cases h
 rename_i s p h1 h2
 obtain ⟨rfl, hok⟩ := decSt_inv h1
 obtain ⟨z, rfl, hz⟩ := decIs1_inv h2
 exact ⟨_, rfl, rfl, by rw [ltBL_cons, ltB_st, ltBL_cons, ltB_isl]; rfl, Follows_37 s hok z p (zOk_of hz)⟩
def c38 : List PV → List Box → Option (PRes × List Box)
 | [v, w], sg => match decSt v, decIs1 w with
  | some s, some p => some (.ret (agreesR s p), sg)
  | _, _ => none
 | _, _ => none
theorem c38_ok : ConOk Tryz.prog 38 c38 := ConOk.of0 (ent Tryz.func38 rfl) fun args sg r sg' h => by
 unfold c38 at h
 split at h <;> try (cases h; done)
 split at h <;> cases h
 rename_i s p h1 h2
 obtain ⟨rfl, hok⟩ := decSt_inv h1
 obtain ⟨z, rfl, hz⟩ := decIs1_inv h2
 exact ⟨_, rfl, rfl, by rw [ltBL_cons, ltB_st, ltBL_cons, ltB_isl]; rfl, Agrees_38 s hok z p (zOk_of hz)⟩
def c39 : List PV → List Box → Option (PRes × List Box)
 | [v, w], sg => match decSt v, decIs1 w with
  | some s, some p => if s.story = true ∧ p.length ≤ 100000 then some (.ret (isV (follB s.sc.length (playsB s.e s.sc s.rl) p)), sg) else none
  | _, _ => none
 | _, _ => none
theorem c39_ok : ConOk Tryz.prog 39 c39 := ConOk.of0 (ent Tryz.func39 rfl) fun args sg r sg' h => by
 unfold c39 at h
 split at h <;> try (cases h; done)
 split at h <;> try (cases h; done)
 rename_i s p h1 h2
 split at h <;> cases h
 rename_i hc
 obtain ⟨rfl, hok⟩ := decSt_inv h1
 obtain ⟨z, rfl, hz⟩ := decIs1_inv h2
 exact ⟨_, rfl, rfl, by rw [ltBL_cons, ltB_st, ltBL_cons, ltB_isl]; rfl, RFollows_39 s hok hc.1 z p (zOk_of hz) hc.2⟩
def c41 : List PV → List Box → Option (PRes × List Box)
 | [v, w], sg => match decSt v, decIs1 w with
  | some s, some p => if s.story = true then some (.ret (plsV (agreesB (playsB s.e s.sc s.rl) p)), sg) else none
  | _, _ => none
 | _, _ => none
theorem c41_ok : ConOk Tryz.prog 41 c41 := ConOk.of0 (ent Tryz.func41 rfl) fun args sg r sg' h => by
 unfold c41 at h
 split at h <;> try (cases h; done)
 split at h <;> try (cases h; done)
 rename_i s p h1 h2
 split at h <;> cases h
 rename_i hc
 obtain ⟨rfl, hok⟩ := decSt_inv h1
 obtain ⟨z, rfl, hz⟩ := decIs1_inv h2
 exact ⟨_, rfl, rfl, by rw [ltBL_cons, ltB_st, ltBL_cons, ltB_isl]; rfl, RAgrees_41 s hok hc z p (zOk_of hz)⟩
end Go.Pv
