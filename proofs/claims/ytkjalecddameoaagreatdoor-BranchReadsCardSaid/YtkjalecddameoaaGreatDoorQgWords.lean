/- Contracts: words of scenes, Surely. -/
import Derived.Test.YtkjalecddameoaaGreatDoorQgPlays
set_option linter.all false
namespace Go.Pv
open Go Go.RowKit Go.Proofs
set_option maxRecDepth 200000
set_option maxHeartbeats 8000000
theorem ltBL_slx (m:Nat) (l:List (List Int)):ltBL m (l.map slx) = true:=ltBL_of_closed m _ (closedL_slx l)
theorem cnt_take {ps:List (List Int)} {n:Int} {i:Nat} {p:List Int} (h:ps[i]? = some p):cntW (ps.take (i + 1)) n = cntW (ps.take i) n + if n ∈ p then 1 else 0:=by
 unfold cntW
 rw [List.take_add_one,h,List.filter_append,List.length_append]
 congr 1
 by_cases hp:n ∈ p
 ·rw [if_pos hp];simp [List.filter_cons,hp]
 ·rw [if_neg hp];simp [List.filter_cons,hp]
theorem cnt_le (ps:List (List Int)) (n:Int):cntW ps n ≤ ps.length:=List.length_filter_le ..
theorem words_take {k i:Nat} {ps:List (List Int)} (h:i < k):(wordsB k ps).take (i + 1) = (wordsB k ps).take i ++ [wordW ps (i:Int)]:=by
 unfold wordsB
 rw [List.take_add_one]
 congr 1
 rw [List.getElem?_map,List.getElem?_range h]
 rfl
def wordsR (k:Nat) (ps:List (List Int)):PV:=if ps.length = 0 then .tuple [.sl .n [],ii 5] else .tuple [.sl .a ((wordsB k ps).map ii),ii 0]
theorem leave_tup2 {sg:List Box} {id:Nat} {z:Bool} {e:TypeId} {k:Nat} {es:List PV} {frz:Bool} (h:sg[id]? = some (.row z e k es frz)) (hc:closedL es = true) {m:Nat} (hm:m = es.length) {d:PV} (hd:d.closed = true):leaveC0 0 (.tuple [.ms id m,d]) sg = (.tuple [.sl (if z then .n else .a) es,d],[]) :=
 leaveF (by rw [frzX_tup (n:=7) (by simp [closedL,PV.closed])];simp only [frzL,frzX_row (n:=5) h hc hm,frzX_closed (n:=6) hd]) (by simp [PV.closed,closedL,hc,hd])
def cfWd:CallF:=cfAdd cf0 111 c111
theorem cfWd_ok:CallFOk Tryz.prog cfWd:=cfAdd_ok cf0_ok c111_ok
theorem words_92 (s:Sty) (hk0:1 ≤ s.sc.length) (hk:s.sc.length ≤ 1000) (ps:List (List Int)) (hps:ps.length ≤ 1000) (hp:∀ p ∈ ps,p.length ≤ 1000):CallOk Tryz.prog 92 [.agg s.cells,plsV ps] [] (.ret (wordsR s.sc.length ps)) []:=by
 refine CallOk.ofF hTT Tryz.func92 rfl rfl ?_
 obtain ⟨z,hz⟩:∃ z:Z,z = if decide (ps.length = 0) = true then Z.n else Z.a:=⟨_,rfl⟩
 unfold wordsR plsV
 rw [← hz]
 by_cases hne:ps.length = 0
 ·have hn:(((ps.length:Nat):Int) == 0) = true:=by rw [hne];rfl
  rw [if_pos hne]
  repeat (with_reducible (first | apply nx | apply wQ rfl | ((first | apply wV | apply wW | apply wX | (apply wy cf0_ok;(focus kernel_rfl)));(focus (simp only [Tryz.f92,hn,List.length_map,go_sem];rfl))) | refine wz cf0_ok ?_ | (refine wa ?_;refine And.intro ?_ ?_;(focus kernel_rfl))))
  exact ⟨rfl,rfl,_,rfl,leave_closed rfl⟩
 rw [if_neg hne]
 have hn:(((ps.length:Nat):Int) == 0) = false:=by rw [beq_eq_false_iff_ne];omega
 have hza:z = .a:=by rw [hz,decide_eq_false hne];rfl
 subst hza
 have ez:(Z.a = Z.n) = False:=by simp
 have hcps:=closedL_slx ps
 repeat (with_reducible (first | apply nx | apply wQ rfl | ((first | apply wV | apply wW | apply wX | (apply wy cf0_ok;(focus kernel_rfl)));(focus (simp only [Tryz.f92,hn,List.length_map,go_sem];rfl))) | refine wz cf0_ok ?_ | (refine wa ?_;refine And.intro ?_ ?_;(focus kernel_rfl))))
 refine RunQ.nilRow 6 44 1 (by simp only [go_sem]) (by simp only [go_sem];rfl) (by simp only [go_sem];rfl) ?_
 refine RunQ.keep [17,16,15,6,2,1] (by simp only [go_sem];rfl) ?_
 refine RunQ.loop (fun i s'=>s' = ⟨[(17,ii (i:Nat)),(16,ii s.sc.length),(15,.sl s.zs (s.sc.map encSn)),(6,.ms 1 i),(2,.bp 0 0),(1,.sl .a (ps.map slx))],50,[.var s.cells false,.row (decide (i = 0)) 44 1 (((wordsB s.sc.length ps).take i).map ii) false]⟩) s.sc.length (by simp only [List.length_map,go_sem]) ?_
 rintro i _ hi rfl
 by_cases hlt:i < s.sc.length
 ·have hlt':(i:Int) < s.sc.length:=by omega
  have htl:((wordsB s.sc.length ps).take i).length = i:=by rw [List.length_take,words_len];omega
  have hwt:=words_take (ps:=ps) hlt
  have e4:IntKind.i64.wrap ((i:Int) + 1) = ((i + 1:Nat):Int):=wrap_id (by omega) (by omega)
  have q1:(i + 1) * 8 ≤ 140737488355328:=by omega
  have q2:i + 1 ≤ maxLen:=by unfold maxLen;omega
  have hd1:decide (i + 1 = 0) = false:=by simp
  have hl2:∀ x,ltBL 2 (((wordsB s.sc.length ps).take i).map ii ++ [PV.int .i64 x]) = true:=fun x=>by
   have:=ltB_is 2 ((wordsB s.sc.length ps).take i ++ [x])
   rw [List.map_append] at this
   exact this
  repeat (with_reducible (first | ((fail_if_success (refine RunQ.seq (x:=.region 9 _ _) ?_));(apply nx)) | apply wQ rfl | ((first | apply wV | apply wW | apply wX | (apply wy cf0_ok;(focus kernel_rfl)));(focus (simp only [Tryz.f92,hlt',List.length_map,go_sem];rfl))) | ((fail_if_success (show RunQ _ (.region 9 _ _) _ _));(refine wz cf0_ok ?_)) | (refine wa ?_;refine And.intro ?_ ?_;(focus kernel_rfl))))
  repeat (with_reducible (first | apply nx | apply wQ rfl | ((first | apply wV | apply wW | apply wX | (apply wy cf0_ok;(focus kernel_rfl)));(focus (simp only [Tryz.f92,hlt',List.length_map,go_sem];rfl))) | refine wz cf0_ok ?_ | (refine wa ?_;refine And.intro ?_ ?_;(focus kernel_rfl))))
  refine RunQ.keep [22,21,20,8,7,17,16,15,6,2,1] (by simp only [go_sem];rfl) ?_
  refine RunQ.loop (fun j s'=>s' = ⟨[(22,ii (j:Nat)),(21,ii ps.length),(20,.sl .a (ps.map slx)),(8,ii (cntW (ps.take j) (i:Int):Nat)),(7,ii (i:Nat)),(17,ii (i:Nat)),(16,ii s.sc.length),(15,.sl s.zs (s.sc.map encSn)),(6,.ms 1 i),(2,.bp 0 0),(1,.sl .a (ps.map slx))],50,[.var s.cells false,.row (decide (i = 0)) 44 1 (((wordsB s.sc.length ps).take i).map ii) false]⟩) ps.length (by simp only [List.length_map,go_sem];rfl) ?_
  rintro j _ hj rfl
  by_cases hjl:j < ps.length
  ·obtain ⟨q,hq⟩:∃ q,ps[j]? = some q:=⟨_,List.getElem?_eq_getElem hjl⟩
   have hq':(ps.map slx)[j]? = some (.sl .a (q.map ii)):=map_get hq
   have hjl':(j:Int) < ps.length:=by omega
   have hql:=hp q (List.mem_of_getElem? hq)
   have hqm:q.length ≤ maxLen:=by unfold maxLen;omega
   have hqd:decIs1 (.sl .a (q.map ii)) = some q:=decIs1_enc rfl
   have hqc:=closedL_is q
   have hct:=cnt_take (n:=(i:Int)) hq
   have hcl:=cnt_le (ps.take j) (i:Int)
   rw [List.length_take] at hcl
   have e5:IntKind.i64.wrap ((j:Int) + 1) = ((j + 1:Nat):Int):=wrap_id (by omega) (by omega)
   have e6:IntKind.i64.wrap ((cntW (ps.take j) (i:Int):Int) + 1) = ((cntW (ps.take j) (i:Int) + 1:Nat):Int):=wrap_id (by omega) (by omega)
   by_cases hin:(i:Int) ∈ q
   ·rw [if_pos hin] at hct
    have hde:decide ((i:Int) ∈ q) = true:=decide_eq_true hin
    repeat (with_reducible (first | apply nx | apply wQ rfl | ((first | apply wV | apply wW | apply wX | (apply wy cfWd_ok;(focus kernel_rfl)));(focus (simp only [Tryz.f92,cfWd,c111,hjl',hq',hqd,hqm,hqc,hde,ez,e5,e6,List.length_map,go_sem];rfl))) | refine wz cfWd_ok ?_ | (refine wa ?_;refine And.intro ?_ ?_;(focus kernel_rfl))))
    refine roundQ.t 2 [22,21,20,8,7,17,16,15,6,2,1] hjl (by simp only [ltB_sns,ltB_rzs,ltB_is,ltB_sl,ltBL_slx,hl2,go_sem]) (by rw [hct];simp only [go_sem])
   ·rw [if_neg hin,Nat.add_zero] at hct
    have hde:decide ((i:Int) ∈ q) = false:=decide_eq_false hin
    repeat (with_reducible (first | apply nx | apply wQ rfl | ((first | apply wV | apply wW | apply wX | (apply wy cfWd_ok;(focus kernel_rfl)));(focus (simp only [Tryz.f92,cfWd,c111,hjl',hq',hqd,hqm,hqc,hde,ez,e5,List.length_map,go_sem];rfl))) | refine wz cfWd_ok ?_ | (refine wa ?_;refine And.intro ?_ ?_;(focus kernel_rfl))))
    refine roundQ.t 2 [22,21,20,8,7,17,16,15,6,2,1] hjl (by simp only [ltB_sns,ltB_rzs,ltB_is,ltB_sl,ltBL_slx,hl2,go_sem]) (by rw [hct];simp only [go_sem])
  ·have hjl':¬ (j:Int) < ps.length:=by omega
   obtain rfl:j = ps.length:=by omega
   rw [List.take_length]
   have hcl:=cnt_le ps (i:Int)
   by_cases h0:cntW ps (i:Int) = 0
   ·have b0:((cntW ps (i:Int):Int) == 0) = true:=by rw [h0];rfl
    repeat (with_reducible (first | apply nx | apply wQ rfl | ((first | apply wV | apply wW | apply wX | (apply wy cf0_ok;(focus kernel_rfl)));(focus (simp only [Tryz.f92,hjl',b0,e4,htl,q1,q2,List.length_map,go_sem];rfl))) | refine wz cf0_ok ?_ | (refine wa ?_;refine And.intro ?_ ?_;(focus kernel_rfl))))
    refine roundQ.t 2 [17,16,15,6,2,1] hlt (by simp only [ltB_sns,ltB_rzs,ltB_is,ltB_sl,ltBL_slx,hl2,go_sem]) (by rw [hwt,List.map_append,hd1,wordW,if_pos h0];simp only [go_sem])
   ·have b0:((cntW ps (i:Int):Int) == 0) = false:=by rw [beq_eq_false_iff_ne];omega
    by_cases h1:cntW ps (i:Int) = ps.length
    ·have b1:((cntW ps (i:Int):Int) == (ps.length:Int)) = true:=by rw [h1];simp
     repeat (with_reducible (first | apply nx | apply wQ rfl | ((first | apply wV | apply wW | apply wX | (apply wy cf0_ok;(focus kernel_rfl)));(focus (simp only [Tryz.f92,hjl',b0,b1,e4,htl,q1,q2,List.length_map,go_sem];rfl))) | refine wz cf0_ok ?_ | (refine wa ?_;refine And.intro ?_ ?_;(focus kernel_rfl))))
     refine roundQ.t 2 [17,16,15,6,2,1] hlt (by simp only [ltB_sns,ltB_rzs,ltB_is,ltB_sl,ltBL_slx,hl2,go_sem]) (by rw [hwt,List.map_append,hd1,wordW,if_neg h0,if_pos h1];simp only [go_sem])
    ·have b1:((cntW ps (i:Int):Int) == (ps.length:Int)) = false:=by rw [beq_eq_false_iff_ne];omega
     repeat (with_reducible (first | apply nx | apply wQ rfl | ((first | apply wV | apply wW | apply wX | (apply wy cf0_ok;(focus kernel_rfl)));(focus (simp only [Tryz.f92,hjl',b0,b1,e4,htl,q1,q2,List.length_map,go_sem];rfl))) | refine wz cf0_ok ?_ | (refine wa ?_;refine And.intro ?_ ?_;(focus kernel_rfl))))
     refine roundQ.t 2 [17,16,15,6,2,1] hlt (by simp only [ltB_sns,ltB_rzs,ltB_is,ltB_sl,ltBL_slx,hl2,go_sem]) (by rw [hwt,List.map_append,hd1,wordW,if_neg h0,if_neg h1];simp only [go_sem])
 ·have hlt':¬ (i:Int) < s.sc.length:=by omega
  obtain rfl:i = s.sc.length:=by omega
  have hd0:decide (s.sc.length = 0) = false:=decide_eq_false (by omega)
  have hwl:=words_len s.sc.length ps
  rw [List.take_of_length_le (by omega),hd0]
  repeat (with_reducible (first | apply nx | apply wQ rfl | ((first | apply wV | apply wW | apply wX | (apply wy cf0_ok;(focus kernel_rfl)));(focus (simp only [Tryz.f92,hlt',List.length_map,go_sem];rfl))) | refine wz cf0_ok ?_ | (refine wa ?_;refine And.intro ?_ ?_;(focus kernel_rfl))))
  refine ⟨rfl,rfl,_,rfl,?_⟩
  exact leave_tup2 (sg:=[Box.var s.cells false,.row false 44 1 ((wordsB s.sc.length ps).map ii) false]) (id:=1) (m:=s.sc.length) (d:=ii 0) rfl (closedL_is _) (by rw [List.length_map,hwl]) rfl
end Go.Pv
namespace Go.Pv
open Go Go.RowKit Go.Proofs
set_option maxRecDepth 200000
set_option maxHeartbeats 8000000
def decSlx:PV→Option (List Int)
 | .sl .a es=>decL decI es
 | _=>none
theorem decSlx_inv (x:PV) (l:List Int) (h:decSlx x = some l):x = slx l:=by
 unfold decSlx at h
 split at h <;> try (cases h;done)
 obtain rfl:=decL_inv decI_inv h
 rfl
theorem decSlx_enc (l:List Int):decSlx (slx l) = some l:=decIs l
def plZ (ps:List (List Int)):Z:=if decide (ps.length = 0) = true then .n else .a
def zEqP:Z→Z→Bool
 | .n,.n=>true
 | .f,.f=>true
 | .a,.a=>true
 | _,_=>false
theorem zEqP_eq {x y:Z} (h:zEqP x y = true):x = y:=by cases x <;> cases y <;> first | rfl | cases h
theorem zEqP_refl (x:Z):zEqP x x = true:=by cases x <;> rfl
def decPl:PV→Option (List (List Int))
 | .sl z es=>match decL decSlx es with
  | some ps=>if zEqP z (plZ ps) = true then some ps else none
  | none=>none
 | _=>none
theorem decPl_inv {v:PV} {ps:List (List Int)} (h:decPl v = some ps):v = plsV ps:=by
 unfold decPl at h
 split at h <;> try (cases h;done)
 split at h <;> try (cases h;done)
 rename_i h1
 split at h <;> cases h
 rename_i hz
 obtain rfl:=decL_inv decSlx_inv h1
 rw [zEqP_eq hz]
 rfl
theorem decPl_enc (ps:List (List Int)):decPl (plsV ps) = some ps:=by
 show (match decL decSlx (ps.map slx) with | some ps'=>if zEqP (plZ ps) (plZ ps') = true then some ps' else none | none=>none) = some ps
 rw [decL_map (g:=slx) decSlx_enc]
 exact if_pos (zEqP_refl _)
theorem closed_plsV (ps:List (List Int)):(plsV ps).closed = true:=closedL_slx ps
def c92:List PV→List Box→Option (PRes × List Box)
 | [v,w],sg=>match decSt v,decPl w with
  | some s,some ps=>if (1 ≤ s.sc.length∧s.sc.length ≤ 1000)∧ps.length ≤ 1000∧(ps.all fun p=>decide (p.length ≤ 1000)) = true then some (.ret (wordsR s.sc.length ps),sg) else none
  | _,_=>none
 | _,_=>none
theorem c92_ok:ConOk Tryz.prog 92 c92:=ConOk.of0 (ent Tryz.func92 rfl) fun args sg r sg' h=>by
 unfold c92 at h
 split at h <;> try (cases h;done)
 split at h <;> try (cases h;done)
 rename_i h1 h2
 split at h <;> cases h
 rename_i hc
 obtain ⟨rfl,hok⟩:=decSt_inv h1
 obtain rfl:=decPl_inv h2
 exact ⟨_,rfl,rfl,by rw [ltBL_cons,ltB_st,ltBL_cons,ltB_of_closed 0 _ (closed_plsV _)];rfl,words_92 _ hc.1.1 hc.1.2 _ hc.2.1 fun p hp=>of_decide_eq_true (List.all_eq_true.1 hc.2.2 p hp)⟩
theorem plsV_def (ps:List (List Int)):plsV ps = .sl (plZ ps) (ps.map slx):=rfl
theorem decPl_def (ps:List (List Int)):decPl (.sl (plZ ps) (ps.map slx)) = some ps:=decPl_enc ps
def surelyR (s:Sty):PV:=if s.story = true then wordsR s.sc.length (playsB s.e s.sc s.rl) else .tuple [.sl .n [],ii 2]
def cfSu:CallF:=cfAdd cfZ 92 c92
theorem cfSu_ok:CallFOk Tryz.prog cfSu:=cfAdd_ok cfZ_ok c92_ok
theorem Surely_26 (s:Sty) (hok:s.ok = true):CallOk Tryz.prog 26 [.agg s.cells] [] (.ret (surelyR s)) []:=by
 refine CallOk.ofF hTT Tryz.func26 rfl rfl ?_
 have hd:=decSt_cells s hok
 have h1:=closedL_sns s.sc
 have h2:=closedL_rzs s.rz
 unfold surelyR
 by_cases hst:s.story = true
 ·rw [if_pos hst]
  have hS:=Sty.story_ok hst
  have hp:=Sty.story_parts hst
  have hdt:=decTl_told s hok hst
  have h3:=closedL_is s.mm
  have h4:=closedL_is s.ln
  have hdp:=decPl_def (playsB s.e s.sc s.rl)
  have hcp:=closedL_slx (playsB s.e s.sc s.rl)
  have k1:1 ≤ s.sc.length:=hS.s1
  have k2:s.sc.length ≤ 1000:=by have:=hS.s8;omega
  have k3:(playsB s.e s.sc s.rl).length ≤ 1000:=by have:=plays_len_le hS;omega
  have k4:((playsB s.e s.sc s.rl).all fun p=>decide (p.length ≤ 1000)) = true:=List.all_eq_true.2 fun p hp=>decide_eq_true (by have:=hS.plays_fine p hp;omega)
  unfold wordsR
  by_cases hne:(playsB s.e s.sc s.rl).length = 0
  ·rw [if_pos hne]
   repeat (with_reducible (first | apply nx | apply wQ rfl | ((first | apply wV | apply wW | apply wX | (apply wy cfSu_ok;(focus kernel_rfl)));(focus (simp only [Tryz.f26,cfSu,cfZ,c87,c88,c89,c92,wordsR,plsV_def,hne,hd,hst,hp,hdt,hdp,hcp,k1,k2,k3,k4,h1,h2,h3,h4,List.length_map,go_sem];rfl))) | refine wz cfSu_ok ?_ | (refine wa ?_;refine And.intro ?_ ?_;(focus kernel_rfl))))
   exact ⟨rfl,rfl,_,rfl,leave_closed rfl⟩
  ·rw [if_neg hne]
   repeat (with_reducible (first | apply nx | apply wQ rfl | ((first | apply wV | apply wW | apply wX | (apply wy cfSu_ok;(focus kernel_rfl)));(focus (simp only [Tryz.f26,cfSu,cfZ,c87,c88,c89,c92,wordsR,plsV_def,hne,hd,hst,hp,hdt,hdp,hcp,k1,k2,k3,k4,h1,h2,h3,h4,List.length_map,go_sem];rfl))) | refine wz cfSu_ok ?_ | (refine wa ?_;refine And.intro ?_ ?_;(focus kernel_rfl))))
   exact ⟨rfl,rfl,_,rfl,leave_closed (by simp [tup,PV.closed,closedL,closedL_is])⟩
 ·rw [if_neg hst]
  have hst:s.story = false:=by simpa using hst
  repeat (with_reducible (first | apply nx | apply wQ rfl | ((first | apply wV | apply wW | apply wX | (apply wy cfSu_ok;(focus kernel_rfl)));(focus (simp only [Tryz.f26,cfSu,cfZ,c87,hd,hst,h1,h2,go_sem];rfl))) | refine wz cfSu_ok ?_ | (refine wa ?_;refine And.intro ?_ ?_;(focus kernel_rfl))))
  exact ⟨rfl,rfl,_,rfl,leave_closed rfl⟩
end Go.Pv
