/- Contracts: a story's book, the program's. -/
import Derived.Test.YtkjalecddameoaaGreatDoorQlLine
set_option linter.all false
namespace Go.Pv
open Go Go.RowKit Go.Proofs
set_option maxRecDepth 200000
set_option maxHeartbeats 8000000
def snI (x:Sn):PV:=.iface (if x.loose = true then 212 else 213) (encSn x)
def rowsI (s:Sty):List PV:=.iface 209 (.agg s.cells) :: (s.sc.map snI ++ s.rz.map fun q=>.iface 215 (encRz q))
theorem closed_snI (x:Sn):(snI x).closed = true:=by unfold snI;rfl
theorem closed_rowsI (s:Sty):closedL (rowsI s) = true:=by
 unfold rowsI
 show ((PV.iface 209 (.agg s.cells)).closed && closedL _) = true
 rw [closedL_append,closedL_map closed_snI,closedL_map (g:=fun q:Rz=>PV.iface 215 (encRz q)) (fun q=>closed_rz q)]
 have:(PV.iface 209 (.agg s.cells)).closed = true:=closed_cells s
 rw [this];rfl
theorem join_snoc (ns:List Int) (w:List UInt8) (m:UInt8):Lib.join (w :: (ns.map itoaF ++ [[m]])) [32] = rowF w ns ++ [32,m]:=by
 rw [← join_row,Lib.join_cons,Lib.join_cons]
 unfold Lib.joinTail
 rw [List.map_append,List.flatten_append,List.append_assoc]
 rfl
theorem rows_line (s:Sty) (hok:s.ok = true) (hP:BigB s.e s.sc s.rl) {i:Nat} {v:PV} (hv:(rowsI s)[i]? = some v):∃ t cs r,v = .iface t (.agg cs)∧closedL cs = true∧(rowsB s.e s.sc s.rl)[i]? = some r∧CallOk Tryz.prog 166 [v] [] (.ret (.str r)) []:=by
 have hT:=hP.toThrB
 have hle:=rows_big hP
 unfold rowsI at hv
 cases i with
 | zero =>
  cases hv
  have hr:(rowsB s.e s.sc s.rl)[0]? = some (rowF stW [s.e]):=rfl
  have hj:Lib.join (stW :: [itoaF s.e]) [32] = rowF stW [s.e]:=join_row [s.e] stW
  have hl:=hle _ (List.mem_of_getElem? hr)
  refine ⟨209,s.cells,_,rfl,closed_cells s,hr,?_⟩
  have:=line_209 s.cells (closed_cells s) [itoaF s.e] (words_306 s hT.he) (show 1 ≤ 1000 by decide) (by simp) (by show (Lib.join (stW :: [itoaF s.e]) [32]).length ≤ _;rw [hj];omega)
  rw [← hj]
  exact this
 | succ i =>
  rw [List.getElem?_cons_succ] at hv
  have hr0:(rowsB s.e s.sc s.rl)[i + 1]? = (s.sc.map snR ++ s.rl.map rlR)[i]?:=by unfold rowsB;rw [List.getElem?_cons_succ]
  by_cases hi:i < s.sc.length
  ·rw [List.getElem?_append_left (by rw [List.length_map];exact hi),List.getElem?_map] at hv
   obtain ⟨x,hx,rfl⟩:=Option.map_eq_some_iff.1 hv
   have hr:(rowsB s.e s.sc s.rl)[i + 1]? = some (snR x):=by rw [hr0,List.getElem?_append_left (by rw [List.length_map];exact hi),List.getElem?_map,hx];rfl
   have hl:=hle _ (List.mem_of_getElem? hr)
   have hn:=hT.hs x (List.mem_of_getElem? hx)
   have hj:Lib.join (snW x :: snWs x) [32] = snR x:=join_snoc (snNs x) (snW x) (markW x)
   have hw:(snWs x).length ≤ 1000:=by show 4 ≤ 1000;decide
   have hw2:snWs x ≠ []:=by unfold snWs;simp
   rw [← hj] at hl
   rw [← hj] at hr
   obtain ⟨a,b,c,lo,fo⟩:=x
   cases lo
   ·exact ⟨213,_,_,rfl,rfl,hr,line_213 _ rfl _ (words_310 _ hn) hw hw2 (by exact Nat.le_trans hl (by decide))⟩
   ·exact ⟨212,_,_,rfl,rfl,hr,line_212 _ rfl _ (words_308 _ hn) hw hw2 (by exact Nat.le_trans hl (by decide))⟩
  ·rw [List.getElem?_append_right (by rw [List.length_map];omega),List.length_map,List.getElem?_map] at hv
   obtain ⟨q,hq,rfl⟩:=Option.map_eq_some_iff.1 hv
   have hqr:s.rl[i - s.sc.length]? = some q.2:=Sty.rl_get hq
   have hr:(rowsB s.e s.sc s.rl)[i + 1]? = some (rlR q.2):=by rw [hr0,List.getElem?_append_right (by rw [List.length_map];omega),List.length_map,List.getElem?_map,hqr];rfl
   have hl:=hle _ (List.mem_of_getElem? hr)
   have hqm:=List.mem_of_getElem? hqr
   have hqo:=hP.lt q.2 hqm
   have hj:Lib.join (ruW :: (q.2.frm :: q.2.to).map itoaF) [32] = rlR q.2:=join_row (q.2.frm :: q.2.to) ruW
   rw [← hj] at hl
   rw [← hj] at hr
   have hc:closedL [ii q.2.frm,.sl q.1 (q.2.to.map ii)] = true:=closed_rz q
   exact ⟨215,_,_,rfl,hc,hr,line_215 _ hc _ (words_311 q (rzB_at (Sty.ok_z hok) (List.mem_of_getElem? hq)) hqo (hT.hr q.2 hqm)) (by rw [List.length_map,List.length_cons];omega) (by simp) (Nat.le_trans hl (by decide))⟩
end Go.Pv
namespace Go.Pv
open Go Go.RowKit Go.Proofs
set_option maxRecDepth 200000
set_option maxHeartbeats 8000000
theorem closedL_take:∀ (n:Nat) (l:List PV),closedL l = true→closedL (l.take n) = true
 | 0,_,_=>rfl
 | _ + 1,[],_=>rfl
 | n + 1,x :: l,h=>by
  have h':(x.closed && closedL l) = true:=h
  rw [Bool.and_eq_true] at h'
  show (x.closed && closedL (l.take n)) = true
  rw [h'.1,closedL_take n l h'.2];rfl
theorem book_116 (s:Sty) (hok:s.ok = true) (hP:BigB s.e s.sc s.rl):CallOk Tryz.prog 116 [.agg s.cells] [] (.ret (.str (textB s.e s.sc s.rl))) []:=by
 refine CallOk.of0 hTT Tryz.func116 rfl rfl ?_
 have hzs:=Sty.ok_s hok
 have hzr:=Sty.ok_r hok
 have h1:=closedL_sns s.sc
 have h2:=closedL_rzs s.rz
 have k8:s.sc.length + s.rz.length ≤ 600:=by rw [← Sty.rl_len];exact hP.ls
 have hln:=fun (i:Nat) (v:PV) (hv:(rowsI s)[i]? = some v)=>rows_line s hok hP hv
 have hIc:=closed_rowsI s
 obtain ⟨I,hI⟩:∃ I,I = rowsI s:=⟨_,rfl⟩
 have hI0:I.take (0 + 1) = [.iface 209 (.agg s.cells)]:=by rw [hI];unfold rowsI;rw [List.take_succ_cons,List.take_zero]
 have hIs:∀ i x,s.sc[i]? = some x→I.take (i + 1 + 1) = I.take (i + 1) ++ [snI x]:=fun i x hx=>by
  rw [hI]
  unfold rowsI
  have hi:=(List.getElem?_eq_some_iff.1 hx).1
  rw [List.take_succ_cons,List.take_succ_cons,List.take_add_one,List.getElem?_append_left (by rw [List.length_map];exact hi),List.getElem?_map,hx]
  rfl
 have hIr:∀ j q,s.rz[j]? = some q→I.take (s.sc.length + (j + 1) + 1) = I.take (s.sc.length + j + 1) ++ [.iface 215 (encRz q)]:=fun j q hq=>by
  rw [hI]
  unfold rowsI
  show List.take (s.sc.length + j + 1 + 1) _ = _
  rw [List.take_succ_cons,List.take_succ_cons,List.take_add_one,List.getElem?_append_right (by rw [List.length_map];omega),List.length_map,Nat.add_sub_cancel_left,List.getElem?_map,hq]
  rfl
 have hIl:I.length = s.sc.length + s.rz.length + 1:=by
  rw [hI]
  unfold rowsI
  rw [List.length_cons,List.length_append,List.length_map,List.length_map]
 rw [← hI] at hln hIc
 have hIt:=fun n=>closedL_take n I hIc
 clear hI
 repeat (with_reducible (first | ((fail_if_success (refine RunQ.seq (x:=.region 1 _ _) ?_));(apply nx)) | apply wQ rfl | ((first | apply wV | apply wW | apply wX | (apply wy cf0_ok;(focus kernel_rfl)));(focus (simp only [Tryz.f116,go_sem];rfl))) | ((fail_if_success (show RunQ _ (.region 1 _ _) _ _));(refine wz cf0_ok ?_)) | (refine wa ?_;refine And.intro ?_ ?_;(focus kernel_rfl))))
 refine RunQ.seq ?_
 refine RunQ.regG hTT cf0_ok noM_ok ?_
 iterate 3 (apply RegG.step;(focus (simp only [Tryz.f116,TyD.ifc,go_sem];with_reducible rfl)))
 refine RegG.buildRow (t:=210) (e:=217) (len:=1) (d:=17) (es:=[.iface 209 (.agg s.cells)]) (by first | (simp only [go_sem];done) | (simp only [go_sem];rfl) | rfl) rfl rfl rfl rfl rfl rfl rfl ?_
 apply RegG.step
 ·simp only [go_sem];with_reducible rfl
 refine RegG.nil ?_
 refine thenQ.n ?_
 refine RunQ.keep [3,2,1] (by simp only [go_sem];rfl) ?_
 repeat (with_reducible (first | apply nx | apply wQ rfl | ((first | apply wV | apply wW | apply wX | (apply wy cf0_ok;(focus kernel_rfl)));(focus (simp only [Tryz.f116,List.length_map,go_sem];rfl))) | refine wz cf0_ok ?_ | (refine wa ?_;refine And.intro ?_ ?_;(focus kernel_rfl))))
 refine RunQ.keep [21,20,19,3,2,1] (by simp only [go_sem];rfl) ?_
 have hz1:∀ i,i < s.sc.length→s.zs ≠ .n:=fun i hlt e=>by have:=zOk_map hzs e;rw [this] at hlt;simp at hlt
 refine RunQ.loop (fun i s'=>s' = ⟨[(21,ii (i:Nat)),(20,ii (s.sc.length:Nat)),(19,.sl s.zs (s.sc.map encSn)),(3,.ms 1 (i + 1)),(2,.str []),(1,.bp 0 0)],104,[.var s.cells false,.row false 217 1 (I.take (i + 1)) false]⟩) s.sc.length ?_ ?_
 ·rw [hI0];rfl
 rintro i _ hi rfl
 by_cases hlt:i < s.sc.length
 ·obtain ⟨x,hx⟩:∃ x,s.sc[i]? = some x:=⟨_,List.getElem?_eq_getElem hlt⟩
  have hx':(s.sc.map encSn)[i]? = some (.agg [ii x.part,ii x.least,ii x.most,.bool x.loose,.bool x.formula]):=map_get hx
  have hlt':(i:Int) < s.sc.length:=by omega
  have hz':=hz1 i hlt
  have e4:IntKind.i64.wrap ((i:Int) + 1) = ((i + 1:Nat):Int):=wrap_id (by omega) (by omega)
  have hst:=hIs i x hx
  have hrow:(I.take (i + 1)).length = i + 1:=by rw [List.length_take];omega
  have l1:i + 1 + 1 ≤ maxLen:=by unfold maxLen;omega
  have l2:(i + 1 + 1) * 16 ≤ 140737488355328:=by omega
  have hcl:=hIt (i + 1)
  generalize I.take (i + 1) = A at hst hrow hcl ⊢
  have hla:=ltBL_of_closed 2 A hcl
  obtain ⟨a,b,c,lo,fo⟩:=x
  cases lo
  ·have hst:I.take (i + 1 + 1) = A ++ [.iface 213 (.agg [ii a,ii b,ii c,.bool false,.bool fo])]:=hst
   repeat (with_reducible (first | apply nx | apply wQ rfl | ((first | apply wV | apply wW | apply wX | (apply wy cf0_ok;(focus kernel_rfl)));(focus (simp only [Tryz.f116,hx',hlt',hz',e4,hrow,l1,l2,TyD.ifc,List.length_map,go_sem];rfl))) | refine wz cf0_ok ?_ | (refine wa ?_;refine And.intro ?_ ?_;(focus kernel_rfl))))
   refine roundQ.t 2 [21,20,19,3,2,1] hlt (by simp only [ltB_sns,ltB_rzs,ltBL_app,hla,go_sem]) (by rw [hst];first | (simp only [go_sem];done) | (simp only [go_sem];rfl) | rfl)
  ·have hst:I.take (i + 1 + 1) = A ++ [.iface 212 (.agg [ii a,ii b,ii c,.bool true,.bool fo])]:=hst
   repeat (with_reducible (first | apply nx | apply wQ rfl | ((first | apply wV | apply wW | apply wX | (apply wy cf0_ok;(focus kernel_rfl)));(focus (simp only [Tryz.f116,hx',hlt',hz',e4,hrow,l1,l2,TyD.ifc,List.length_map,go_sem];rfl))) | refine wz cf0_ok ?_ | (refine wa ?_;refine And.intro ?_ ?_;(focus kernel_rfl))))
   refine roundQ.t 2 [21,20,19,3,2,1] hlt (by simp only [ltB_sns,ltB_rzs,ltBL_app,hla,go_sem]) (by rw [hst];first | (simp only [go_sem];done) | (simp only [go_sem];rfl) | rfl)
 have hlt':¬ (i:Int) < s.sc.length:=by omega
 obtain rfl:i = s.sc.length:=by omega
 repeat (with_reducible (first | apply nx | apply wQ rfl | ((first | apply wV | apply wW | apply wX | (apply wy cf0_ok;(focus kernel_rfl)));(focus (simp only [Tryz.f116,hlt',List.length_map,go_sem];rfl))) | refine wz cf0_ok ?_ | (refine wa ?_;refine And.intro ?_ ?_;(focus kernel_rfl))))
 refine RunQ.keep [43,42,41,3,2,1] (by simp only [go_sem];rfl) ?_
 have hz2:∀ i,i < s.rz.length→s.zr ≠ .n:=fun i hlt e=>by have:=zOk_map hzr e;rw [this] at hlt;simp at hlt
 refine RunQ.loop (fun j s'=>s' = ⟨[(43,ii (j:Nat)),(42,ii (s.rz.length:Nat)),(41,.sl s.zr (s.rz.map encRz)),(3,.ms 1 (s.sc.length + j + 1)),(2,.str []),(1,.bp 0 0)],104,[.var s.cells false,.row false 217 1 (I.take (s.sc.length + j + 1)) false]⟩) s.rz.length rfl ?_
 rintro j _ hj rfl
 by_cases hjl:j < s.rz.length
 ·obtain ⟨q,hq⟩:∃ q,s.rz[j]? = some q:=⟨_,List.getElem?_eq_getElem hjl⟩
  have hq':(s.rz.map encRz)[j]? = some (.agg [ii q.2.frm,.sl q.1 (q.2.to.map ii)]):=map_get hq
  have hjl':(j:Int) < s.rz.length:=by omega
  have hz':=hz2 j hjl
  have e4:IntKind.i64.wrap ((j:Int) + 1) = ((j + 1:Nat):Int):=wrap_id (by omega) (by omega)
  have hst:I.take (s.sc.length + (j + 1) + 1) = I.take (s.sc.length + j + 1) ++ [.iface 215 (.agg [ii q.2.frm,.sl q.1 (q.2.to.map ii)])]:=hIr j q hq
  have hrow:(I.take (s.sc.length + j + 1)).length = s.sc.length + j + 1:=by rw [List.length_take];omega
  have l1:s.sc.length + j + 1 + 1 ≤ maxLen:=by unfold maxLen;omega
  have l2:(s.sc.length + j + 1 + 1) * 16 ≤ 140737488355328:=by omega
  have e5:s.sc.length + (j + 1) + 1 = s.sc.length + j + 1 + 1:=by omega
  have hcl:=hIt (s.sc.length + j + 1)
  generalize I.take (s.sc.length + j + 1) = A at hst hrow hcl ⊢
  have hla:=ltBL_of_closed 2 A hcl
  repeat (with_reducible (first | apply nx | apply wQ rfl | ((first | apply wV | apply wW | apply wX | (apply wy cf0_ok;(focus kernel_rfl)));(focus (simp only [Tryz.f116,hq',hjl',hz',e4,hrow,l1,l2,TyD.ifc,List.length_map,go_sem];rfl))) | refine wz cf0_ok ?_ | (refine wa ?_;refine And.intro ?_ ?_;(focus kernel_rfl))))
  refine roundQ.t 2 [43,42,41,3,2,1] hjl (by simp only [ltB_sns,ltB_rzs,ltB_is,ltBL_app,hla,go_sem]) (by rw [hst,e5];first | (simp only [go_sem];done) | (simp only [go_sem];rfl) | rfl)
 have hjl':¬ (j:Int) < s.rz.length:=by omega
 obtain rfl:j = s.rz.length:=by omega
 rw [List.take_of_length_le (by omega),← hIl]
 have hRe:=rows_big hP
 have hRl:(rowsB s.e s.sc s.rl).length = I.length:=by
  rw [hIl]
  unfold rowsB
  rw [List.length_cons,List.length_append,List.length_map,List.length_map,Sty.rl_len]
 have hI19:I.length ≤ 601:=by omega
 unfold textB
 generalize rowsB s.e s.sc s.rl = R at *
 repeat (with_reducible (first | apply nx | apply wQ rfl | ((first | apply wV | apply wW | apply wX | (apply wy cf0_ok;(focus kernel_rfl)));(focus (simp only [Tryz.f116,hjl',List.length_map,go_sem];rfl))) | refine wz cf0_ok ?_ | (refine wa ?_;refine And.intro ?_ ?_;(focus kernel_rfl))))
 refine RunQ.keep [56,55,54,9,8] (by simp only [go_sem];rfl) ?_
 refine RunQ.loop (fun i s'=>∃ c:Nat,sumS 0 R = c + sumS i (R.drop i)∧c ≤ 2295000000000 * i∧s' = ⟨[(56,ii (i:Nat)),(55,ii (I.length:Nat)),(54,.ms 1 I.length),(9,ii (c:Nat)),(8,.str (linesF (R.take i)))],104,[.var s.cells false,.row false 217 1 I false]⟩) I.length ⟨0,by rw [List.drop_zero,Nat.zero_add],Nat.zero_le _,rfl⟩ ?_
 rintro i _ hi ⟨c,hc,hcl,rfl⟩
 by_cases hlt:i < I.length
 ·obtain ⟨v,hv⟩:∃ v,I[i]? = some v:=⟨_,List.getElem?_eq_getElem hlt⟩
  obtain ⟨t,cs,r,rfl,hcs,hr,hcall⟩:=hln i v hv
  have hlt2:(i:Int) < I.length:=by omega
  have e4:IntKind.i64.wrap ((i:Int) + 1) = ((i + 1:Nat):Int):=wrap_id (by omega) (by omega)
  have hrl2:=hRe r (List.mem_of_getElem? hr)
  have hvw:=fun sg=>mapO_cl sg cs hcs
  have hlb:ltBL 0 [.iface t (.agg cs)] = true:=by rw [ltBL_cons];have:=ltB_of_closed 0 (.agg cs) hcs;show (PV.ltB 0 (.agg cs) && true) = true;rw [this];rfl
  have hla:=ltBL_of_closed 2 I hIc
  have hln2:linesF (R.take (i + 1)) = linesF (R.take i) ++ (r ++ [10]):=by
   rw [List.take_add_one,hr]
   unfold linesF
   rw [List.flatMap_append]
   congr 1
   simp
  have hll:=lines_len 2100 (R.take i) fun r hr=>hRe r (List.mem_of_mem_take hr)
  rw [List.length_take] at hll
  have hll2:(linesF (R.take i)).length ≤ 2101 * 601:=Nat.le_trans hll (Nat.mul_le_mul (Nat.le_refl _) (by omega))
  rw [drop_get hr] at hc
  have hc:sumS 0 R = c + (sumR (i + 1) 0 r + sumS (i + 1) (R.drop (i + 1))):=hc
  generalize linesF (R.take i) = L at hll2 hln2 ⊢
  repeat (with_reducible (first | apply nx | apply wQ rfl | ((first | apply wV | apply wW | apply wX | (apply wy (cfAt_ok cf0_ok (ent Tryz.func166 rfl) hcall hlb);(focus kernel_rfl)));(focus (simp only [Tryz.f116,cfAt,hlt2,hv,hcs,hvw,List.length_map,go_sem];rfl))) | refine wz (cfAt_ok cf0_ok (ent Tryz.func166 rfl) hcall hlb) ?_ | (refine wa ?_;refine And.intro ?_ ?_;(focus kernel_rfl))))
  refine RunQ.keep [65,64,12,10,56,55,54,9,8] (by simp only [go_sem];rfl) ?_
  refine RunQ.loop (fun k s'=>∃ d:Nat,d + sumR (i + 1) k (r.drop k) = c + sumR (i + 1) 0 r∧d ≤ c + 765000000 * k∧s' = ⟨[(65,ii (k:Nat)),(64,ii (r.length:Nat)),(12,.str r),(10,ii (i:Nat)),(56,ii (i:Nat)),(55,ii (I.length:Nat)),(54,.ms 1 I.length),(9,ii (d:Nat)),(8,.str L)],104,[.var s.cells false,.row false 217 1 I false]⟩) r.length ⟨c,by rw [List.drop_zero],Nat.le_add_right _ _,rfl⟩ ?_
  rintro k _ hk ⟨d,hd,hdl,rfl⟩
  by_cases hkl:k < r.length
  ·obtain ⟨x,hx⟩:∃ x,r[k]? = some x:=⟨_,List.getElem?_eq_getElem hkl⟩
   have hkl':(k:Int) < r.length:=by omega
   have hxl:=x.toNat_lt
   have e5:IntKind.i64.wrap ((k:Int) + 1) = ((k + 1:Nat):Int):=wrap_id (by omega) (by omega)
   have e6:IntKind.i64.wrap ((x.toNat:Nat):Int) = ((x.toNat:Nat):Int):=wrap_id (by omega) (by omega)
   have b1:x.toNat * (k + 1) ≤ 255 * 3000:=Nat.mul_le_mul (by omega) (by omega)
   have b2:x.toNat * (k + 1) * (i + 1) ≤ 255 * 3000 * 1000:=Nat.mul_le_mul b1 (by omega)
   have m1:((x.toNat:Nat):Int) * ((k + 1:Nat):Int) = ((x.toNat * (k + 1):Nat):Int):=by rw [Int.natCast_mul]
   have m2:((x.toNat * (k + 1):Nat):Int) * ((i + 1:Nat):Int) = ((x.toNat * (k + 1) * (i + 1):Nat):Int):=by rw [Int.natCast_mul (x.toNat * (k + 1))]
   have hsr:sumR (i + 1) k (r.drop k) = x.toNat * (k + 1) * (i + 1) + sumR (i + 1) (k + 1) (r.drop (k + 1)):=by rw [drop_get hx];rfl
   rw [hsr] at hd
   generalize x.toNat * (k + 1) * (i + 1) = p2 at b2 m2 hd
   generalize x.toNat * (k + 1) = p1 at b1 m1 m2
   have e7:IntKind.i64.wrap (((x.toNat:Nat):Int) * ((k + 1:Nat):Int)) = (p1:Nat):=by rw [m1];exact wrap_id (by omega) (by omega)
   have e8:IntKind.i64.wrap ((p1:Int) * ((i + 1:Nat):Int)) = (p2:Nat):=by rw [m2];exact wrap_id (by omega) (by omega)
   have e9:IntKind.i64.wrap ((d:Int) + (p2:Int)) = ((d + p2:Nat):Int):=wrap_id (by omega) (by omega)
   repeat (with_reducible (first | apply nx | apply wQ rfl | ((first | apply wV | apply wW | apply wX | (apply wy cf0_ok;(focus kernel_rfl)));(focus (simp only [Tryz.f116,hkl',hx,e4,e5,e6,e7,e8,e9,go_sem];rfl))) | refine wz cf0_ok ?_ | (refine wa ?_;refine And.intro ?_ ?_;(focus kernel_rfl))))
   refine roundQ.t 2 [65,64,12,10,56,55,54,9,8] hkl (by simp only [ltB_sns,ltB_rzs,hla,go_sem]) ⟨d + p2,by omega,by omega,by first | (simp only [go_sem];done) | (simp only [go_sem];rfl) | rfl⟩
  ·have hkl':¬ (k:Int) < r.length:=by omega
   rw [List.drop_eq_nil_of_le (by omega)] at hd
   have hd:d = c + sumR (i + 1) 0 r:=hd
   have g1:r.length + 1 ≤ maxLen:=by unfold maxLen;omega
   have g2:L.length + (r.length + 1) ≤ maxLen:=by unfold maxLen;omega
   repeat (with_reducible (first | apply nx | apply wQ rfl | ((first | apply wV | apply wW | apply wX | (apply wy cf0_ok;(focus kernel_rfl)));(focus (simp only [Tryz.f116,hkl',e4,g1,g2,go_sem];rfl))) | refine wz cf0_ok ?_ | (refine wa ?_;refine And.intro ?_ ?_;(focus kernel_rfl))))
   refine roundQ.t 2 [56,55,54,9,8] hlt (by simp only [ltB_sns,ltB_rzs,hla,go_sem]) ⟨d,by omega,by omega,by rw [hln2];first | (simp only [go_sem];done) | (simp only [go_sem];rfl) | rfl⟩
 ·have hlt2:¬ (i:Int) < I.length:=by omega
  obtain rfl:i = I.length:=by omega
  rw [List.drop_eq_nil_of_le (by omega)] at hc
  have hc:sumS 0 R = c:=hc
  rw [List.take_of_length_le (by omega)]
  have hd:c % 223 < 223:=Nat.mod_lt _ (by decide)
  have t1:((c:Nat):Int).tmod 223 = ((c % 223:Nat):Int):=by rw [Int.tmod_eq_emod_of_nonneg (by omega)];omega
  have hll:=lines_len 2100 R hRe
  have hll2:(linesF R).length ≤ 2101 * 601:=Nat.le_trans hll (Nat.mul_le_mul (Nat.le_refl _) (by omega))
  have hseal:sealF R = linesF R ++ (101 :: 110 :: 100 :: 32 :: (digF (c % 223) ++ [10])):=by unfold sealF;rw [hc]
  rw [hseal]
  unfold digF
  generalize linesF R = L at hll2 ⊢
  generalize c % 223 = d at hd t1 ⊢
  have t2:IntKind.i64.wrap (((d:Nat):Int).tdiv 100) = ((d / 100:Nat):Int):=by rw [Int.tdiv_eq_ediv_of_nonneg (by omega)];exact (wrap_id (by omega) (by omega)).trans (by omega)
  have t3:IntKind.i64.wrap (((d:Nat):Int).tdiv 10) = ((d / 10:Nat):Int):=by rw [Int.tdiv_eq_ediv_of_nonneg (by omega)];exact (wrap_id (by omega) (by omega)).trans (by omega)
  have t4:((d / 10:Nat):Int).tmod 10 = ((d / 10 % 10:Nat):Int):=by rw [Int.tmod_eq_emod_of_nonneg (by omega)];omega
  have t5:((d:Nat):Int).tmod 10 = ((d % 10:Nat):Int):=by rw [Int.tmod_eq_emod_of_nonneg (by omega)];omega
  have n1:(((d / 100:Nat):Int)).natAbs < 1000000:=by omega
  have n2:(((d / 10 % 10:Nat):Int)).natAbs < 1000000:=by omega
  have n3:(((d % 10:Nat):Int)).natAbs < 1000000:=by omega
  have h223:¬ (223:Int) = 0:=by decide
  have h100:¬ (100:Int) = 0:=by decide
  have h10:¬ (10:Int) = 0:=by decide
  have q1:=itoa_len 5 _ n1 (Nat.le_refl _)
  have q2:=itoa_len 5 _ n2 (Nat.le_refl _)
  have q3:=itoa_len 5 _ n3 (Nat.le_refl _)
  have ha1:-9223372036854775808 ≤ ((d / 100:Nat):Int):=by omega
  have ha2:((d / 100:Nat):Int) ≤ 9223372036854775807:=by omega
  have ha3:-9223372036854775808 ≤ ((d / 10 % 10:Nat):Int):=by omega
  have ha4:((d / 10 % 10:Nat):Int) ≤ 9223372036854775807:=by omega
  have ha5:-9223372036854775808 ≤ ((d % 10:Nat):Int):=by omega
  have ha6:((d % 10:Nat):Int) ≤ 9223372036854775807:=by omega
  generalize ((d / 100:Nat):Int) = A at *
  generalize ((d / 10 % 10:Nat):Int) = B at *
  generalize ((d % 10:Nat):Int) = C at *
  have p1:(itoaF A).length ≤ maxLen:=by unfold maxLen;omega
  have p2:(itoaF B).length ≤ maxLen:=by unfold maxLen;omega
  have p3:(itoaF C).length ≤ maxLen:=by unfold maxLen;omega
  have g1:L.length + 4 ≤ maxLen:=by unfold maxLen;omega
  have g2:L.length + 4 + (itoaF A).length ≤ maxLen:=by unfold maxLen;omega
  have g3:L.length + ((itoaF A).length + 1 + 1 + 1 + 1) + (itoaF B).length ≤ maxLen:=by unfold maxLen;omega
  have g4:L.length + ((itoaF A).length + (itoaF B).length + 1 + 1 + 1 + 1) + (itoaF C).length ≤ maxLen:=by unfold maxLen;omega
  have g5:L.length + ((itoaF A).length + (itoaF B).length + (itoaF C).length + 1 + 1 + 1 + 1) + 1 ≤ maxLen:=by unfold maxLen;omega
  have g6:L.length + ((itoaF A).length + ((itoaF B).length + (itoaF C).length) + 1 + 1 + 1 + 1) + 1 ≤ maxLen:=by unfold maxLen;omega
  repeat (with_reducible (first | apply nx | apply wQ rfl | ((first | apply wV | apply wW | apply wX | (apply wy cfD5_ok;(focus kernel_rfl)));(focus (simp only [Tryz.f116,cfD5,c167,hlt2,t1,t2,t3,t4,t5,h223,h100,h10,ha1,ha2,ha3,ha4,ha5,ha6,p1,p2,p3,g1,g2,g3,g4,g5,g6,go_sem];rfl))) | refine wz cfD5_ok ?_ | (refine wa ?_;refine And.intro ?_ ?_;(focus kernel_rfl))))
  refine ⟨rfl,rfl,_,rfl,?_⟩
  simp only [List.append_assoc]
  rfl
end Go.Pv
namespace Go.Pv
open Go Go.RowKit Go.Proofs
set_option maxRecDepth 200000
set_option maxHeartbeats 8000000
def c116:List PV→List Box→Option (PRes × List Box)
 | [v],sg=>match decSt v with
  | some s=>if bigB s.e s.sc s.rl = true then some (.ret (.str (textB s.e s.sc s.rl)),sg) else none
  | none=>none
 | _,_=>none
theorem c116_ok:ConOk Tryz.prog 116 c116:=ConOk.of0 (ent Tryz.func116 rfl) fun args sg r sg' h=>by
 unfold c116 at h
 split at h <;> try (cases h;done)
 split at h <;> try (cases h;done)
 rename_i s h1
 split at h <;> cases h
 rename_i hc
 obtain ⟨rfl,hok⟩:=decSt_inv h1
 exact ⟨_,rfl,rfl,by rw [ltBL_cons,ltB_st];rfl,book_116 s hok (big_iff.1 hc)⟩
def c59:List PV→List Box→Option (PRes × List Box)
 | [v],sg=>match decSt v with
  | some s=>if bigB s.e s.sc s.rl = true then some (.ret (.str (textB s.e s.sc s.rl)),sg) else none
  | none=>none
 | _,_=>none
theorem c59_ok:ConOk Tryz.prog 59 c59:=ConOk.of0 (ent Tryz.func59 rfl) fun args sg r sg' h=>by
 unfold c59 at h
 split at h <;> try (cases h;done)
 split at h <;> try (cases h;done)
 rename_i s h1
 split at h <;> cases h
 rename_i hc
 obtain ⟨rfl,hok⟩:=decSt_inv h1
 exact ⟨_,rfl,rfl,by rw [ltBL_cons,ltB_st];rfl,RPrint_59 s hok (big_iff.1 hc)⟩
def printR (s:Sty):PV:=if s.story = true then .tuple [.str (textB s.e s.sc s.rl),ii 0] else .tuple [.str [],ii 2]
def cfI1:CallF:=cfAdd (cfAdd cf0 87 c87) 116 c116
theorem cfI1_ok:CallFOk Tryz.prog cfI1:=cfAdd_ok (cfAdd_ok cf0_ok c87_ok) c116_ok
theorem Print_57 (s:Sty) (hok:s.ok = true):CallOk Tryz.prog 57 [.agg s.cells] [] (.ret (printR s)) []:=by
 refine CallOk.of0 hTT Tryz.func57 rfl rfl ?_
 have hd:=decSt_cells s hok
 have h1:=closedL_sns s.sc
 have h2:=closedL_rzs s.rz
 unfold printR
 cases hst:s.story
 ·repeat (with_reducible (first | apply nx | apply wQ rfl | ((first | apply wV | apply wW | apply wX | (apply wy cfI1_ok;(focus kernel_rfl)));(focus (simp only [Tryz.f57,cfI1,c87,hd,hst,h1,h2,go_sem];rfl))) | refine wz cfI1_ok ?_ | (refine wa ?_;refine And.intro ?_ ?_;(focus kernel_rfl))))
  exact ⟨rfl,rfl,_,rfl,rfl⟩
 ·have hp:bigB s.e s.sc s.rl = true:=big_iff.2 (big_of (Sty.story_ok hst).toPartsOk)
  repeat (with_reducible (first | apply nx | apply wQ rfl | ((first | apply wV | apply wW | apply wX | (apply wy cfI1_ok;(focus kernel_rfl)));(focus (simp only [Tryz.f57,cfI1,c87,c116,hd,hst,hp,h1,h2,go_sem];rfl))) | refine wz cfI1_ok ?_ | (refine wa ?_;refine And.intro ?_ ?_;(focus kernel_rfl))))
  exact ⟨rfl,rfl,_,rfl,rfl⟩
def c57:List PV→List Box→Option (PRes × List Box)
 | [v],sg=>match decSt v with
  | some s=>some (.ret (printR s),sg)
  | none=>none
 | _,_=>none
theorem c57_ok:ConOk Tryz.prog 57 c57:=ConOk.of0 (ent Tryz.func57 rfl) fun args sg r sg' h=>by
 unfold c57 at h
 split at h <;> try (cases h;done)
 split at h <;> cases h
 rename_i s h1
 obtain ⟨rfl,hok⟩:=decSt_inv h1
 exact ⟨_,rfl,rfl,by rw [ltBL_cons,ltB_st];rfl,Print_57 s hok⟩
end Go.Pv
