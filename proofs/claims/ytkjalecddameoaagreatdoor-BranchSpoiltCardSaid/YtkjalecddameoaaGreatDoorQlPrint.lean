/- Contracts: a story's book, the reference's. -/
import Derived.Test.YtkjalecddameoaaGreatDoorQlRow
import Derived.Test.YtkjalecddameoaaGreatDoorQlPlain
import Derived.Test.YtkjalecddameoaaGreatDoorQiTab
set_option linter.all false
namespace Go.Pv
open Go Go.RowKit Go.Proofs
set_option maxRecDepth 200000
set_option maxHeartbeats 8000000
theorem thr_of {e:Int} {sc:List Sn} {rl:List Rl} (h:PartsOk e sc rl):ThrB e sc rl where
 he:=by have:=h.e1;have:=h.e6;omega
 hs x hx n hn:=by
  have:=h.sn x hx
  simp only [snNs,List.mem_cons,List.not_mem_nil,or_false] at hn
  rcases hn with rfl | rfl | rfl <;> omega
 hr r hr n hn:=by
  have a:=h.rr r hr
  have b:=h.e6
  have c:=h.s8
  rcases List.mem_cons.1 hn with rfl | hn
  ·omega
  ·have:=a.2.2.2.2 n hn;omega
theorem big_of {e:Int} {sc:List Sn} {rl:List Rl} (h:PartsOk e sc rl):BigB e sc rl where
 toThrB:=thr_of h
 ls:=by have:=h.s8;have:=h.r10;omega
 lt r hr:=by have:=h.rr r hr;omega
theorem sn_row_len {x:Sn} (h:∀ n ∈ snNs x,0 ≤ n∧n < 1000):(snR x).length ≤ 22:=by
 have h1:=row_len3 (snNs x) h (snW x)
 have h2:(snW x).length ≤ 6:=by unfold snW;split <;> decide
 have h3:(snNs x).length = 3:=rfl
 unfold snR
 rw [List.length_append]
 show _ + 2 ≤ 22
 omega
def cfC1:CallF:=cfAdd (cfAdd cf0 120 c120) 121 c121
theorem cfC1_ok:CallFOk Tryz.prog cfC1:=cfAdd_ok (cfAdd_ok cf0_ok c120_ok) c121_ok
theorem RPrint_59 (s:Sty) (hok:s.ok = true) (hP:BigB s.e s.sc s.rl):CallOk Tryz.prog 59 [.agg s.cells] [] (.ret (.str (textB s.e s.sc s.rl))) []:=by
 refine CallOk.of0 hTT Tryz.func59 rfl rfl ?_
 have hT:=hP.toThrB
 have hzs:=Sty.ok_s hok
 have hzr:=Sty.ok_r hok
 have h1:=closedL_sns s.sc
 have h2:=closedL_rzs s.rz
 have hen:s.e.natAbs < 1000000:=by have:=hT.he;omega
 have hd1:decIs1 (.sl .f [ii s.e]) = some [s.e]:=rfl
 obtain ⟨R,hR⟩:∃ R,R = rowsB s.e s.sc s.rl:=⟨_,rfl⟩
 have hR0:R.take 1 = [rowF [115,116,111,114,121] [s.e]]:=by rw [hR];unfold rowsB;rw [List.take_succ_cons,List.take_zero];rfl
 have hRs:∀ i x,s.sc[i]? = some x→R.take (i + 2) = R.take (i + 1) ++ [snR x]:=fun i x hx=>by
  rw [hR]
  unfold rowsB
  have hi:=(List.getElem?_eq_some_iff.1 hx).1
  rw [List.take_succ_cons,List.take_succ_cons,List.take_add_one,List.getElem?_append_left (by rw [List.length_map];exact hi),List.getElem?_map,hx]
  rfl
 have hRr:∀ i r,s.rl[i]? = some r→R.take (s.sc.length + i + 2) = R.take (s.sc.length + i + 1) ++ [rlR r]:=fun i r hr=>by
  rw [hR]
  unfold rowsB
  rw [List.take_succ_cons,List.take_succ_cons,List.take_add_one,List.getElem?_append_right (by rw [List.length_map];omega),List.length_map,Nat.add_sub_cancel_left,List.getElem?_map,hr]
  rfl
 have hRl:R.length = s.sc.length + s.rz.length + 1:=by
  rw [hR]
  unfold rowsB
  rw [List.length_cons,List.length_append,List.length_map,List.length_map,Sty.rl_len]
 have hRe:∀ r ∈ R,r.length ≤ 2100:=by rw [hR];exact rows_big hP
 have hSeal:textB s.e s.sc s.rl = sealF R:=by rw [hR];rfl
 rw [hSeal]
 clear hR hSeal
 have k8:s.sc.length + s.rz.length ≤ 600:=by rw [← Sty.rl_len];exact hP.ls
 obtain ⟨f0,hf0⟩:∃ f0,f0 = rowF [115,116,111,114,121] [s.e]:=⟨_,rfl⟩
 rw [← hf0] at hR0
 have hf0:=hf0.symm
 repeat (with_reducible (first | ((fail_if_success (refine RunQ.seq (x:=.region 1 _ _) ?_));(apply nx)) | apply wQ rfl | ((first | apply wV | apply wW | apply wX | (apply wy cfC1_ok;(focus kernel_rfl)));(focus (simp only [Tryz.f59,go_sem];rfl))) | ((fail_if_success (show RunQ _ (.region 1 _ _) _ _));(refine wz cfC1_ok ?_)) | (refine wa ?_;refine And.intro ?_ ?_;(focus kernel_rfl))))
 refine RunQ.seq ?_
 refine RunQ.regG hTT cfC1_ok noM_ok ?_
 iterate 4 (apply RegG.step;(focus (simp only [Tryz.f59,cfC1,c120,hd1,hen,hf0,go_sem];with_reducible rfl)))
 refine RegG.buildRow (t:=165) (e:=9) (len:=1) (d:=13) (es:=[.str f0]) (by first | (simp only [go_sem];done) | (simp only [go_sem];rfl) | rfl) rfl rfl rfl rfl rfl rfl rfl ?_
 apply RegG.step
 ·simp only [go_sem];with_reducible rfl
 refine RegG.nil ?_
 refine thenQ.n ?_
 repeat (with_reducible (first | apply nx | apply wQ rfl | ((first | apply wV | apply wW | apply wX | (apply wy cf0_ok;(focus kernel_rfl)));(focus (simp only [Tryz.f59,List.length_map,go_sem];rfl))) | refine wz cf0_ok ?_ | (refine wa ?_;refine And.intro ?_ ?_;(focus kernel_rfl))))
 refine RunQ.keep [4,3,2,1] (by simp only [go_sem];rfl) ?_
 have hz1:∀ i,i < s.sc.length→s.zs ≠ .n:=fun i hlt e=>by have:=zOk_map hzs e;rw [this] at hlt;simp at hlt
 refine RunQ.loop (fun i s'=>s' = ⟨[(4,ii (i:Nat)),(3,.ms 1 (i + 1)),(2,.str []),(1,.bp 0 0)],71,[.var s.cells false,.row false 9 1 ((R.take (i + 1)).map PV.str) false]⟩) s.sc.length (by rw [hR0];rfl) ?_
 rintro i _ hi rfl
 by_cases hlt:i < s.sc.length
 ·obtain ⟨x,hx⟩:∃ x,s.sc[i]? = some x:=⟨_,List.getElem?_eq_getElem hlt⟩
  have hx':(s.sc.map encSn)[i]? = some (.agg [ii x.part,ii x.least,ii x.most,.bool x.loose,.bool x.formula]):=map_get hx
  have hlt':(i:Int) < s.sc.length:=by omega
  have hz':=hz1 i hlt
  have e4:IntKind.i64.wrap ((i:Int) + 1) = ((i + 1:Nat):Int):=wrap_id (by omega) (by omega)
  have hst:=hRs i x hx
  have u:=hT.hs x (List.mem_of_getElem? hx)
  have u1:x.part.natAbs < 1000000:=by have:=u x.part (by simp [snNs]);omega
  have u2:x.least.natAbs < 1000000:=by have:=u x.least (by simp [snNs]);omega
  have u3:x.most.natAbs < 1000000:=by have:=u x.most (by simp [snNs]);omega
  have hrow:(R.take (i + 1)).length = i + 1:=by rw [List.length_take];omega
  have l1:i + 1 + 1 ≤ maxLen:=by unfold maxLen;omega
  have l2:(i + 1 + 1) * 16 ≤ 140737488355328:=by omega
  have hlr:=sn_row_len u
  obtain ⟨rx,hrx⟩:∃ rx,rx = rowF (snW x) (snNs x):=⟨_,rfl⟩
  have hrl:rx.length + 2 ≤ maxLen:=by
   have:(snR x).length = rx.length + 2:=by unfold snR;rw [hrx,List.length_append];rfl
   unfold maxLen;omega
  have hsn:snR x = rx ++ [32,markW x]:=by rw [hrx];rfl
  rw [hsn] at hst
  clear hlr u hsn
  obtain ⟨a,b,c,lo,fo⟩:=x
  have hd5:decIs1 (.sl .f [ii a,ii b,ii c]) = some [a,b,c]:=rfl
  have hx':(s.sc.map encSn)[i]? = some (.agg [ii a,ii b,ii c,.bool lo,.bool fo]):=hx'
  have u1:a.natAbs < 1000000:=u1
  have u2:b.natAbs < 1000000:=u2
  have u3:c.natAbs < 1000000:=u3
  generalize hA:R.take (i + 1) = A at hst hrow
  cases lo <;> cases fo
  ·have hRx:rowF [115,99,101,110,101] [a,b,c] = rx:=hrx.symm
   have hst:R.take (i + 1 + 1) = A ++ [rx ++ [32,45]]:=hst
   repeat (with_reducible (first | apply nx | apply wQ rfl | ((first | apply wV | apply wW | apply wX | (apply wy cfC1_ok;(focus kernel_rfl)));(focus (simp only [Tryz.f59,cfC1,c120,hx',hlt',hz',e4,hd5,u1,u2,u3,hrow,hRx,hrl,l1,l2,List.length_map,go_sem];rfl))) | refine wz cfC1_ok ?_ | (refine wa ?_;refine And.intro ?_ ?_;(focus kernel_rfl))))
   refine roundQ.t 2 [4,3,2,1] hlt (by simp only [ltB_sns,ltB_rzs,ltB_strs,ltBL_app,go_sem]) (by rw [hst];first | (simp only [List.map_append,go_sem];done) | (simp only [List.map_append,go_sem];rfl) | rfl)
  ·have hRx:rowF [115,99,101,110,101] [a,b,c] = rx:=hrx.symm
   have hst:R.take (i + 1 + 1) = A ++ [rx ++ [32,33]]:=hst
   repeat (with_reducible (first | apply nx | apply wQ rfl | ((first | apply wV | apply wW | apply wX | (apply wy cfC1_ok;(focus kernel_rfl)));(focus (simp only [Tryz.f59,cfC1,c120,hx',hlt',hz',e4,hd5,u1,u2,u3,hrow,hRx,hrl,l1,l2,List.length_map,go_sem];rfl))) | refine wz cfC1_ok ?_ | (refine wa ?_;refine And.intro ?_ ?_;(focus kernel_rfl))))
   refine roundQ.t 2 [4,3,2,1] hlt (by simp only [ltB_sns,ltB_rzs,ltB_strs,ltBL_app,go_sem]) (by rw [hst];first | (simp only [List.map_append,go_sem];done) | (simp only [List.map_append,go_sem];rfl) | rfl)
  ·have hRx:rowF [98,97,116,116,108,101] [a,b,c] = rx:=hrx.symm
   have hst:R.take (i + 1 + 1) = A ++ [rx ++ [32,45]]:=hst
   repeat (with_reducible (first | apply nx | apply wQ rfl | ((first | apply wV | apply wW | apply wX | (apply wy cfC1_ok;(focus kernel_rfl)));(focus (simp only [Tryz.f59,cfC1,c120,hx',hlt',hz',e4,hd5,u1,u2,u3,hrow,hRx,hrl,l1,l2,List.length_map,go_sem];rfl))) | refine wz cfC1_ok ?_ | (refine wa ?_;refine And.intro ?_ ?_;(focus kernel_rfl))))
   refine roundQ.t 2 [4,3,2,1] hlt (by simp only [ltB_sns,ltB_rzs,ltB_strs,ltBL_app,go_sem]) (by rw [hst];first | (simp only [List.map_append,go_sem];done) | (simp only [List.map_append,go_sem];rfl) | rfl)
  ·have hRx:rowF [98,97,116,116,108,101] [a,b,c] = rx:=hrx.symm
   have hst:R.take (i + 1 + 1) = A ++ [rx ++ [32,33]]:=hst
   repeat (with_reducible (first | apply nx | apply wQ rfl | ((first | apply wV | apply wW | apply wX | (apply wy cfC1_ok;(focus kernel_rfl)));(focus (simp only [Tryz.f59,cfC1,c120,hx',hlt',hz',e4,hd5,u1,u2,u3,hrow,hRx,hrl,l1,l2,List.length_map,go_sem];rfl))) | refine wz cfC1_ok ?_ | (refine wa ?_;refine And.intro ?_ ?_;(focus kernel_rfl))))
   refine roundQ.t 2 [4,3,2,1] hlt (by simp only [ltB_sns,ltB_rzs,ltB_strs,ltBL_app,go_sem]) (by rw [hst];first | (simp only [List.map_append,go_sem];done) | (simp only [List.map_append,go_sem];rfl) | rfl)
 have hlt':¬ (i:Int) < s.sc.length:=by omega
 obtain rfl:i = s.sc.length:=by omega
 repeat (with_reducible (first | apply nx | apply wQ rfl | ((first | apply wV | apply wW | apply wX | (apply wy cf0_ok;(focus kernel_rfl)));(focus (simp only [Tryz.f59,hlt',List.length_map,go_sem];rfl))) | refine wz cf0_ok ?_ | (refine wa ?_;refine And.intro ?_ ?_;(focus kernel_rfl))))
 refine RunQ.keep [8,3,2,1] (by simp only [go_sem];rfl) ?_
 refine RunQ.loop (fun j s'=>s' = ⟨[(8,ii (j:Nat)),(3,.ms 1 (s.sc.length + j + 1)),(2,.str []),(1,.bp 0 0)],71,[.var s.cells false,.row false 9 1 ((R.take (s.sc.length + j + 1)).map PV.str) false]⟩) s.rz.length (by first | (simp only [go_sem];done) | (simp only [go_sem];rfl) | rfl) ?_
 rintro j _ hj rfl
 by_cases hjl:j < s.rz.length
 ·obtain ⟨q,hq⟩:∃ q,s.rz[j]? = some q:=⟨_,List.getElem?_eq_getElem hjl⟩
  have hq':(s.rz.map encRz)[j]? = some (.agg [ii q.2.frm,.sl q.1 (q.2.to.map ii)]):=map_get hq
  have hjl':(j:Int) < s.rz.length:=by omega
  have hzq:s.zr ≠ .n:=fun e=>by have:=zOk_map hzr e;rw [this] at hjl;simp at hjl
  have hqr:s.rl[j]? = some q.2:=Sty.rl_get hq
  have hst:=hRr j q.2 hqr
  have hqm:=List.mem_of_getElem? hqr
  have t1:=hP.lt q.2 hqm
  have hqn:=hT.hr q.2 hqm
  have hqz:=rzB_at (Sty.ok_z hok) (List.mem_of_getElem? hq)
  have hqz':q.1 = .n→q.2.to = []:=zOk_map hqz
  obtain ⟨zq,fr,to⟩:=q
  have t1:to.length ≤ 502:=t1
  have hrow:(R.take (s.sc.length + j + 1)).length = s.sc.length + j + 1:=by rw [List.length_take];omega
  have e4:IntKind.i64.wrap ((j:Int) + 1) = ((j + 1:Nat):Int):=wrap_id (by omega) (by omega)
  have l1:s.sc.length + j + 1 + 1 ≤ maxLen:=by unfold maxLen;omega
  have l2:(s.sc.length + j + 1 + 1) * 16 ≤ 140737488355328:=by omega
  have e5:s.sc.length + (j + 1) + 1 = s.sc.length + j + 1 + 1:=by omega
  obtain ⟨rx,hrx⟩:∃ rx,rx = rlR ⟨fr,to⟩:=⟨_,rfl⟩
  rw [← hrx] at hst
  have hRx:rowF [114,117,108,101] (fr :: to) = rx:=hrx.symm
  have hst:R.take (s.sc.length + (j + 1) + 1) = R.take (s.sc.length + j + 1) ++ [rx]:=hst
  have t6:((fr :: to).all fun n=>decide (n.natAbs < 1000000)) = true:=List.all_eq_true.2 fun n hn=>decide_eq_true (by have:=hqn n hn;omega)
  generalize hA:R.take (s.sc.length + j + 1) = A at hst hrow
  cases to with
  | nil =>
   have hd6:decIs1 (.sl .f [ii fr]) = some [fr]:=rfl
   have t61:fr.natAbs < 1000000:=by have:=hqn fr (by simp);omega
   cases zq
   all_goals
    repeat (with_reducible (first | apply nx | apply wQ rfl | ((first | apply wV | apply wW | apply wX | (apply wy cfC1_ok;(focus kernel_rfl)));(focus (simp only [Tryz.f59,cfC1,c120,hq',hjl',hzq,t61,hd6,hRx,hrow,e4,l1,l2,List.length_map,go_sem];rfl))) | refine wz cfC1_ok ?_ | (refine wa ?_;refine And.intro ?_ ?_;(focus kernel_rfl))))
    refine roundQ.t 2 [8,3,2,1] hjl (by simp only [ltB_sns,ltB_rzs,ltB_strs,ltBL_app,go_sem]) (by rw [hst,e5];first | (simp only [List.map_append,go_sem];done) | (simp only [List.map_append,go_sem];rfl) | rfl)
  | cons y to =>
   have hqz':zq ≠ .n:=fun e=>by have:=hqz' e;cases this
   generalize hto:y :: to = to' at *
   have hd6:decIs1 (.sl .a (ii fr :: to'.map ii)) = some (fr :: to'):=decIs1_enc (l:=fr :: to') rfl
   have hc6:closedL (ii fr :: to'.map ii) = true:=closedL_is (fr :: to')
   have hc7:=closedL_is to'
   have t3:(1 + to'.length) * 8 ≤ 140737488355328:=by omega
   have t4:1 + to'.length ≤ maxLen:=by unfold maxLen;omega
   have t5:1 + to'.length ≤ 100000:=by omega
   have t7:to'.length + 1 = 1 + to'.length:=by omega
   have hte:(to'.map ii).isEmpty = false:=by rw [← hto];rfl
   repeat (with_reducible (first | apply nx | apply wQ rfl | ((first | apply wV | apply wW | apply wX | (apply wy cfC1_ok;(focus kernel_rfl)));(focus (simp only [Tryz.f59,cfC1,c120,hq',hjl',hzq,hqz',hte,t1,t3,t4,t5,t6,t7,hd6,hc6,hc7,hRx,all_mi,all_t,hrow,e4,l1,l2,List.length_map,go_sem];rfl))) | refine wz cfC1_ok ?_ | (refine wa ?_;refine And.intro ?_ ?_;(focus kernel_rfl))))
   refine roundQ.t 2 [8,3,2,1] hjl (by simp only [ltB_sns,ltB_rzs,ltB_strs,ltBL_app,go_sem]) (by rw [hst,e5];first | (simp only [List.map_append,go_sem];done) | (simp only [List.map_append,go_sem];rfl) | rfl)
 have hjl':¬ (j:Int) < s.rz.length:=by omega
 obtain rfl:j = s.rz.length:=by omega
 have hRall:(R.all fun r=>decide (r.length ≤ 3000)) = true:=List.all_eq_true.2 fun r hr=>decide_eq_true (Nat.le_trans (hRe r hr) (by decide))
 have hRn:R.length ≤ 1000:=by omega
 have hdR:=decSs_map R
 have hcR:=closedL_strs R
 rw [List.take_of_length_le (by omega)]
 repeat (with_reducible (first | ((fail_if_success (refine RunQ.seq (x:=.region 16 _ _) ?_));(apply nx)) | apply wQ rfl | ((first | apply wV | apply wW | apply wX | (apply wy cfC1_ok;(focus kernel_rfl)));(focus (simp only [Tryz.f59,hjl',List.length_map,go_sem];rfl))) | ((fail_if_success (show RunQ _ (.region 16 _ _) _ _));(refine wz cfC1_ok ?_)) | (refine wa ?_;refine And.intro ?_ ?_;(focus kernel_rfl))))
 refine RunQ.freezeZ 3 1 (es:=R.map PV.str) (by first | (simp only [go_sem];done) | (simp only [go_sem];rfl) | rfl) rfl (by rw [List.length_map];omega) (closedL_strs R) (by first | (simp only [go_sem];done) | (simp only [go_sem];rfl) | rfl) (by first | (simp only [go_sem];done) | (simp only [go_sem];rfl) | rfl) ?_
 repeat (with_reducible (first | apply nx | apply wQ rfl | ((first | apply wV | apply wW | apply wX | (apply wy cfC1_ok;(focus kernel_rfl)));(focus (simp only [Tryz.f59,cfC1,c121,hdR,hRall,hRn,hcR,imp_self,false_implies,List.length_map,go_sem];rfl))) | refine wz cfC1_ok ?_ | (refine wa ?_;refine And.intro ?_ ?_;(focus kernel_rfl))))
 exact ⟨rfl,rfl,_,rfl,rfl⟩
end Go.Pv
