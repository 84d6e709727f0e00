/- The pure-value layer, part 48: calls that leave a row of their own, among whatever boxes. -/
import Derived.Test.YtkjalecddameoaaGreatDoorQdWalk
import Derived.Test.YtkjalecddameoaaGreatDoorQlPrint
import Derived.Test.YtkjalecddameoaaGreatDoorQhLib
import Derived.Test.YtkjalecddameoaaGreatDoorQfTry
set_option linter.all false
namespace Go.Pv
open Go Go.RowKit
theorem CallOk.rowAt {P:Program} {f:FuncId} {args:List PV} {e:TypeId} {k:Nat} {es:List PV} (h:CallOk P f args [] (.ret (.ms 0 es.length)) [.row false e k es false]) (hlt:∀ x ∈ args,Lt 0 x) (hcl:∀ x ∈ es,Lt 0 x) (sg:List Box) :
 CallOk P f args sg (.ret (.ms sg.length es.length)) (sg ++ [.row false e k es false]):=by
 refine ⟨by simp,fun n G w us hR hL=>?_⟩
 have hR1:Rel (G.push .dead) (sg ++ [.dead]) w:=push_dead hR
 have hfree:free (sg ++ [Box.dead]) sg.length:=by
  unfold free
  rw [List.getElem?_append_right (Nat.le_refl _)];simp
 refine CallsIn.mono (h.frameRow hlt hcl hR1 (hL.push .dead) (n:=n) hfree) fun x w' ⟨G',u,hx,hR',hl,hdf,hm⟩=>?_
 subst hx
 refine ⟨G',?_,(Gh.le_trans (G.push_le .dead) hl).leM _,hdf,hm⟩
 have:(sg ++ [Box.dead]).set sg.length (.row false e k es false) = sg ++ [.row false e k es false]:=by
  rw [List.set_append_right _ _ (Nat.le_refl _)];simp
 rw [this] at hR'
 exact hR'
def conRow (c:List PV→List Box→Option (PRes × List Box)) (args:List PV) (sg:List Box):Option (PRes × List Box) :=
 match c args [] with
 | some (.ret (.ms 0 n),[.row false e k es false])=>if n = es.length∧closedL es = true∧ltBL 0 args = true then some (.ret (.ms sg.length n),sg ++ [.row false e k es false]) else none
 | some (.ret v,[])=>if ltBL 0 args = true then some (.ret v,sg) else none
 | _=>none
theorem ConOk.row {P:Program} {f:FuncId} {c:List PV→List Box→Option (PRes × List Box)} (h:ConOk P f c):ConOk P f (conRow c):=fun args sg r sg' e=>by
 unfold conRow at e
 split at e
 ·rename_i hc
  split at e <;> cases e
  rename_i hh
  obtain ⟨rfl,h2,h3⟩:=hh
  obtain ⟨a,b,_⟩:=h _ _ _ _ hc
  exact ⟨a,b.rowAt (lt_of_ltBL 0 _ h3) (lt_of_closedL _ h2) sg,(SameLoops.refl sg).app [_] rfl⟩
 ·rename_i hc
  split at e <;> cases e
  rename_i hh
  obtain ⟨a,b,_⟩:=h _ _ _ _ hc
  exact ⟨a,b.frame (lt_of_ltBL 0 _ hh) _,SameLoops.refl _⟩
 ·cases e
end Go.Pv
namespace Go.Pv
open Go Go.RowKit Go.Proofs
set_option maxRecDepth 200000
set_option maxHeartbeats 8000000
def cfD5:CallF:=cfAdd cf0 167 c167
theorem cfD5_ok:CallFOk Tryz.prog cfD5:=cfAdd_ok cf0_ok c167_ok
theorem numbers_307 (z:Z) (ns:List Int) (hz:z = .n→ns = []) (hn:ns.length ≤ 1000) (h0:ns.length ≠ 0) (hb:∀ n ∈ ns,n.natAbs < 1000000):CallOk Tryz.prog 307 [.sl z (ns.map ii)] [] (.ret (.ms 0 ns.length)) [.row false 9 1 ((ns.map itoaF).map PV.str) false]:=by
 have hrun:RunQ Tryz.prog (match Tryz.f307.body with | some c=>c | none=>.skip) ⟨argT 0 [.sl z (ns.map ii)],19,[]⟩ (fun o st'=>o.ends = true∧resC TT st' Tryz.f307.results = some (.ms 0 ns.length)∧st'.sg = [.row false 9 1 ((ns.map itoaF).map PV.str) false]):=by
  show RunQ Tryz.prog (Code.seq _ _) _ _
  repeat (with_reducible (first | apply nx | apply wQ rfl | ((first | apply wV | apply wW | apply wX | (apply wy cf0_ok;(focus kernel_rfl)));(focus (simp only [Tryz.f307,List.length_map,go_sem];rfl))) | refine wz cf0_ok ?_ | (refine wa ?_;refine And.intro ?_ ?_;(focus kernel_rfl))))
  refine RunQ.keep [8,7,6,3] (by simp only [go_sem];rfl) ?_
  refine RunQ.nilRow 3 9 1 (by simp only [go_sem]) (by simp only [go_sem];rfl) (by simp only [go_sem];rfl) ?_
  refine RunQ.loop (fun i s'=>s' = ⟨[(8,ii (i:Nat)),(7,ii (ns.length:Nat)),(6,.sl z (ns.map ii)),(3,.ms 0 i)],19,[.row (decide (i = 0)) 9 1 (((ns.map itoaF).take i).map PV.str) false]⟩) ns.length (by simp only [go_sem]) ?_
  rintro i _ hi rfl
  by_cases hlt:i < ns.length
  ·obtain ⟨x,hx⟩:∃ x,ns[i]? = some x:=⟨_,List.getElem?_eq_getElem hlt⟩
   have hx':(ns.map ii)[i]? = some (ii x):=map_get hx
   have hlt':(i:Int) < ns.length:=by omega
   have hz':z ≠ .n:=fun e=>by rw [hz e] at hlt;simp at hlt
   have e4:IntKind.i64.wrap ((i:Int) + 1) = ((i + 1:Nat):Int):=wrap_id (by omega) (by omega)
   have hbx:=hb x (List.mem_of_getElem? hx)
   have hlx:=itoa_len 5 x hbx (Nat.le_refl _)
   have p1:-9223372036854775808 ≤ x:=by omega
   have p2:x ≤ 9223372036854775807:=by omega
   have p3:(itoaF x).length ≤ maxLen:=by unfold maxLen;omega
   have hst:(ns.map itoaF).take (i + 1) = (ns.map itoaF).take i ++ [itoaF x]:=by rw [List.take_add_one,List.getElem?_map,hx];rfl
   have hrl:((ns.map itoaF).take i).length = i:=by rw [List.length_take,List.length_map];omega
   have q1:(i + 1) * 16 ≤ 140737488355328:=by omega
   have q2:i + 1 ≤ maxLen:=by unfold maxLen;omega
   have hd1:decide (i + 1 = 0) = false:=by simp
   generalize (ns.map itoaF).take i = A at hst hrl ⊢
   repeat (with_reducible (first | apply nx | apply wQ rfl | ((first | apply wV | apply wW | apply wX | (apply wy cfD5_ok;(focus kernel_rfl)));(focus (simp only [Tryz.f307,cfD5,c167,hx',hlt',hz',p1,p2,p3,hrl,e4,q1,q2,List.length_map,go_sem];rfl))) | refine wz cfD5_ok ?_ | (refine wa ?_;refine And.intro ?_ ?_;(focus kernel_rfl))))
   refine roundQ.t 1 [8,7,6,3] hlt (by simp only [ltB_is,ltB_strs,ltBL_app,go_sem]) (by rw [hst,hd1];simp only [List.map_append,go_sem])
  ·have hlt':¬ (i:Int) < ns.length:=by omega
   obtain rfl:i = ns.length:=by omega
   have e:(ns.map itoaF).take ns.length = ns.map itoaF:=List.take_of_length_le (by rw [List.length_map];exact Nat.le_refl _)
   rw [e,decide_eq_false h0]
   repeat (with_reducible (first | apply nx | apply wQ rfl | ((first | apply wV | apply wW | apply wX | (apply wy cf0_ok;(focus kernel_rfl)));(focus (simp only [Tryz.f307,hlt',List.length_map,go_sem];rfl))) | refine wz cf0_ok ?_ | (refine wa ?_;refine And.intro ?_ ?_;(focus kernel_rfl))))
   exact ⟨rfl,rfl,rfl⟩
 obtain ⟨o,st',hr,h1,h2,h3⟩:=hrun
 have hb:=CallOk.body hTT (args:=[.sl z (ns.map ii)]) Tryz.func307 (c:=match Tryz.f307.body with | some c=>c | none=>.skip) rfl rfl hr h1 h2 (by rw [h3];exact sameLoops_of _ _ rfl)
 rw [h3] at hb
 exact hb
def c307:List PV→List Box→Option (PRes × List Box)
 | [v],[]=>match decIs1 v with
  | some ns=>if (ns.length ≤ 1000∧decide (ns.length = 0) = false)∧(ns.all fun n=>decide (n.natAbs < 1000000)) = true then some (.ret (.ms 0 ns.length),[.row false 9 1 ((ns.map itoaF).map PV.str) false]) else none
  | none=>none
 | _,_=>none
theorem c307_ok:ConOk Tryz.prog 307 c307:=fun args sg r sg' h=>by
 unfold c307 at h
 split at h <;> try (cases h;done)
 split at h <;> try (cases h;done)
 rename_i h1
 split at h <;> cases h
 rename_i hc
 obtain ⟨z,rfl,hz⟩:=decIs1_inv h1
 exact ⟨ent Tryz.func307 rfl,numbers_307 _ _ hz hc.1.1 (of_decide_eq_false hc.1.2) (fun n hn=>by simpa using List.all_eq_true.1 hc.2 n hn),sameLoops_of _ _ rfl⟩
def cfD6:CallF:=cfAdd cf0 307 (conRow c307)
theorem cfD6_ok:CallFOk Tryz.prog cfD6:=cfAdd_ok cf0_ok c307_ok.row
def snWs (x:Sn):List (List UInt8):=(snNs x).map itoaF ++ [[markW x]]
theorem shown_309 (x:Sn) (h:∀ n ∈ snNs x,0 ≤ n∧n < 1000):CallOk Tryz.prog 309 [encSn x] [] (.ret (.sl .a ((snWs x).map PV.str))) []:=by
 refine CallOk.ofF hTT Tryz.func309 rfl rfl ?_
 have u1:x.part.natAbs < 1000000:=by have:=h x.part (by simp [snNs]);omega
 have u2:x.least.natAbs < 1000000:=by have:=h x.least (by simp [snNs]);omega
 have u3:x.most.natAbs < 1000000:=by have:=h x.most (by simp [snNs]);omega
 obtain ⟨a,b,c,lo,fo⟩:=x
 have hd5:decIs1 (.sl .f [ii a,ii b,ii c]) = some [a,b,c]:=rfl
 have u1:a.natAbs < 1000000:=u1
 have u2:b.natAbs < 1000000:=u2
 have u3:c.natAbs < 1000000:=u3
 unfold encSn
 cases fo
 ·repeat (with_reducible (first | apply nx | apply wQ rfl | ((first | apply wV | apply wW | apply wX | (apply wy cfD6_ok;(focus kernel_rfl)));(focus (simp only [Tryz.f309,cfD6,conRow,c307,hd5,u1,u2,u3,go_sem];rfl))) | refine wz cfD6_ok ?_ | (refine wa ?_;refine And.intro ?_ ?_;(focus kernel_rfl))))
  exact ⟨rfl,rfl,_,rfl,leave_row (z:=false) (id:=1) rfl rfl rfl⟩
 ·repeat (with_reducible (first | apply nx | apply wQ rfl | ((first | apply wV | apply wW | apply wX | (apply wy cfD6_ok;(focus kernel_rfl)));(focus (simp only [Tryz.f309,cfD6,conRow,c307,hd5,u1,u2,u3,go_sem];rfl))) | refine wz cfD6_ok ?_ | (refine wa ?_;refine And.intro ?_ ?_;(focus kernel_rfl))))
  exact ⟨rfl,rfl,_,rfl,leave_row (z:=false) (id:=1) rfl rfl rfl⟩
end Go.Pv
namespace Go.Pv
open Go Go.RowKit Go.Proofs
set_option maxRecDepth 200000
set_option maxHeartbeats 8000000
theorem words_306 (s:Sty) (he:0 ≤ s.e∧s.e < 1000):CallOk Tryz.prog 306 [.agg s.cells] [] (.ret (.sl .a [.str (itoaF s.e)])) []:=by
 refine CallOk.ofF hTT Tryz.func306 rfl rfl ?_
 have u:s.e.natAbs < 1000000:=by omega
 have hd:decIs1 (.sl .f [ii s.e]) = some [s.e]:=rfl
 repeat (with_reducible (first | apply nx | apply wQ rfl | ((first | apply wV | apply wW | apply wX | (apply wy cfD6_ok;(focus kernel_rfl)));(focus (simp only [Tryz.f306,cfD6,conRow,c307,hd,u,go_sem];rfl))) | refine wz cfD6_ok ?_ | (refine wa ?_;refine And.intro ?_ ?_;(focus kernel_rfl))))
 exact ⟨rfl,rfl,_,rfl,leave_row (z:=false) (id:=1) rfl rfl rfl⟩
theorem words_308 (x:Sn) (h:∀ n ∈ snNs x,0 ≤ n∧n < 1000):CallOk Tryz.prog 308 [encSn x] [] (.ret (.sl .a ((snWs x).map PV.str))) []:=by
 refine CallOk.ofF hTT Tryz.func308 rfl rfl ?_
 have hs:=shown_309 x h
 have hc:closedL ((snWs x).map PV.str) = true:=closedL_strs _
 generalize snWs x = W at hs hc ⊢
 unfold encSn at hs ⊢
 repeat (with_reducible (first | apply nx | apply wQ rfl | ((first | apply wV | apply wW | apply wX | (apply wy (cfAt_ok cf0_ok (ent Tryz.func309 rfl) hs rfl);(focus kernel_rfl)));(focus (simp only [Tryz.f308,cfAt,go_sem];rfl))) | refine wz (cfAt_ok cf0_ok (ent Tryz.func309 rfl) hs rfl) ?_ | (refine wa ?_;refine And.intro ?_ ?_;(focus kernel_rfl))))
 exact ⟨rfl,rfl,_,rfl,leave_closed hc⟩
theorem words_310 (x:Sn) (h:∀ n ∈ snNs x,0 ≤ n∧n < 1000):CallOk Tryz.prog 310 [encSn x] [] (.ret (.sl .a ((snWs x).map PV.str))) []:=by
 refine CallOk.ofF hTT Tryz.func310 rfl rfl ?_
 have hs:=shown_309 x h
 have hc:closedL ((snWs x).map PV.str) = true:=closedL_strs _
 generalize snWs x = W at hs hc ⊢
 unfold encSn at hs ⊢
 repeat (with_reducible (first | apply nx | apply wQ rfl | ((first | apply wV | apply wW | apply wX | (apply wy (cfAt_ok cf0_ok (ent Tryz.func309 rfl) hs rfl);(focus kernel_rfl)));(focus (simp only [Tryz.f310,cfAt,go_sem];rfl))) | refine wz (cfAt_ok cf0_ok (ent Tryz.func309 rfl) hs rfl) ?_ | (refine wa ?_;refine And.intro ?_ ?_;(focus kernel_rfl))))
 exact ⟨rfl,rfl,_,rfl,leave_closed hc⟩
theorem words_311 (q:Rz) (hz:zOk q.1 (q.2.to.map ii) = true) (h4:q.2.to.length ≤ 502) (hb:∀ n ∈ q.2.frm :: q.2.to,0 ≤ n∧n < 1000):CallOk Tryz.prog 311 [encRz q] [] (.ret (.sl .a (((q.2.frm :: q.2.to).map itoaF).map PV.str))) []:=by
 refine CallOk.ofF hTT Tryz.func311 rfl rfl ?_
 obtain ⟨z,fr,to⟩:=q
 cases to with
 | nil =>
  have hd:decIs1 (.sl .f [ii fr]) = some [fr]:=rfl
  have u:fr.natAbs < 1000000:=by have:=hb fr (by simp);omega
  unfold encRz
  cases z
  all_goals
   repeat (with_reducible (first | apply nx | apply wQ rfl | ((first | apply wV | apply wW | apply wX | (apply wy cfD6_ok;(focus kernel_rfl)));(focus (simp only [Tryz.f311,cfD6,conRow,c307,hd,u,List.map_nil,go_sem];rfl))) | refine wz cfD6_ok ?_ | (refine wa ?_;refine And.intro ?_ ?_;(focus kernel_rfl))))
   exact ⟨rfl,rfl,_,rfl,leave_row (z:=false) (id:=2) rfl rfl rfl⟩
 | cons y0 to0 =>
 generalize hto:y0 :: to0 = to at *
 have hd6:decIs1 (.sl .a (ii fr :: to.map ii)) = some (fr :: to):=decIs1_enc (l:=fr :: to) rfl
 have hc7:=closedL_is to
 have t3:(1 + to.length) * 8 ≤ 140737488355328:=by have:to.length ≤ 502:=h4;omega
 have t4:1 + to.length ≤ maxLen:=by have:to.length ≤ 502:=h4;unfold maxLen;omega
 have t5:1 + to.length ≤ 1000:=by have:to.length ≤ 502:=h4;omega
 have t7:to.length + 1 = 1 + to.length:=by omega
 have t8:(1 + to.length = 0) = False:=eq_false (by omega)
 have hte:(to.map ii).isEmpty = false:=by rw [← hto];rfl
 have t6:((fr :: to).all fun n=>decide (n.natAbs < 1000000)) = true:=List.all_eq_true.2 fun n hn=>decide_eq_true (by have:=hb n hn;omega)
 have t6:fr.natAbs < 1000000∧(to.all fun n=>decide (n.natAbs < 1000000)) = true:=by simpa using t6
 obtain ⟨t61,t62⟩:=t6
 have hz':z ≠ .n:=fun e=>by
  have hz:zOk z (to.map ii) = true:=hz
  rw [e] at hz
  have:to = []:=by simpa [zOk] using hz
  rw [this] at hte;cases hte
 have hc6:closedL (ii fr :: to.map ii) = true:=closedL_is (fr :: to)
 unfold encRz
 repeat (with_reducible (first | ((fail_if_success (refine RunQ.seq (x:=.region 1 _ _) ?_));(apply nx)) | apply wQ rfl | ((first | apply wV | apply wW | apply wX | (apply wy cf0_ok;(focus kernel_rfl)));(focus (simp only [Tryz.f311,go_sem];rfl))) | ((fail_if_success (show RunQ _ (.region 1 _ _) _ _));(refine wz cf0_ok ?_)) | (refine wa ?_;refine And.intro ?_ ?_;(focus kernel_rfl))))
 refine RunQ.seq ?_
 refine RunQ.regG hTT cfD6_ok noM_ok ?_
 iterate 8 (apply RegG.step;(focus (simp only [Tryz.f311,hz',hte,all_mi,all_t,t3,t4,t7,List.length_map,go_sem];with_reducible rfl)))
 refine RegG.freezeZ 10 1 (m:=1 + to.length) (es:=ii fr :: to.map ii) (by first | (simp only [go_sem];done) | (simp only [go_sem];rfl) | rfl) rfl (by simp;omega) hc6 rfl (by first | (simp only [go_sem];done) | (simp only [go_sem];rfl) | rfl) ?_
 iterate 2 (apply RegG.step;(focus (simp only [Tryz.f311,cfD6,conRow,c307,hd6,hc6,hc7,closedL_strs,ltB_is,t3,t4,t5,t61,t62,t7,t8,hte,all_mi,all_t,List.length_map,go_sem];with_reducible rfl)))
 refine RegG.nil ?_
 refine thenQ.n ?_
 repeat (with_reducible (first | apply nx | apply wQ rfl | ((first | apply wV | apply wW | apply wX | (apply wy cf0_ok;(focus kernel_rfl)));(focus (simp only [Tryz.f311,go_sem];rfl))) | refine wz cf0_ok ?_ | (refine wa ?_;refine And.intro ?_ ?_;(focus kernel_rfl))))
 exact ⟨rfl,rfl,_,rfl,leave_row (z:=false) (id:=2) rfl (closedL_strs _) (by simp;omega)⟩
end Go.Pv
namespace Go.Pv
open Go Go.RowKit Go.Proofs
set_option maxRecDepth 200000
set_option maxHeartbeats 8000000
theorem join_row (ns:List Int) (w:List UInt8):Lib.join (w :: ns.map itoaF) [32] = rowF w ns:=by
 rw [Lib.join_cons,rowF_flat]
 unfold Lib.joinTail
 rw [List.map_map,List.flatMap_def]
 rfl
theorem mapO_cl (sg:List Box):∀ cs:List PV,closedL cs = true→mapO (view1 sg) cs = some cs
 | [],_=>rfl
 | x :: cs,h=>by
  have h':(x.closed && closedL cs) = true:=h
  rw [Bool.and_eq_true] at h'
  have e:view1 sg x = some x:=by
   cases x <;> first | rfl | (cases h'.1;done)
  unfold mapO
  rw [e,mapO_cl sg cs h'.2]
theorem meB_209:meB 209 "kelir/branch.words" = some 306:=by unfold meB;simp
theorem meB_212:meB 212 "kelir/branch.words" = some 308:=by unfold meB;simp
theorem meB_213:meB 213 "kelir/branch.words" = some 310:=by unfold meB;simp
theorem meB_215:meB 215 "kelir/branch.words" = some 311:=by unfold meB;simp
def nmV:PV:=.agg [.str [115,116,111,114,121],.str [115,99,101,110,101],.str [98,97,116,116,108,101],.str [114,117,108,101]]
theorem names_172:CallOk Tryz.prog 172 [] [] (.ret nmV) []:=by
 refine CallOk.of0 hTT Tryz.func172 rfl rfl ?_
 repeat (with_reducible (first | apply nx | apply wQ rfl | ((first | apply wV | apply wW | apply wX | (apply wy cf0_ok;(focus kernel_rfl)));(focus (simp only [Tryz.f172,go_sem];rfl))) | refine wz cf0_ok ?_ | (refine wa ?_;refine And.intro ?_ ?_;(focus kernel_rfl))))
 exact ⟨rfl,rfl,_,rfl,rfl⟩
def c172:List PV→List Box→Option (PRes × List Box)
 | [],sg=>some (.ret nmV,sg)
 | _,_=>none
theorem c172_ok:ConOk Tryz.prog 172 c172:=ConOk.of0 (ent Tryz.func172 rfl) fun args sg r sg' h=>by
 unfold c172 at h
 split at h <;> cases h
 exact ⟨_,rfl,rfl,rfl,names_172⟩
def cfL1:CallF:=cfAdd (cfAdd cf0 172 c172) 219 c219
theorem cfL1_ok:CallFOk Tryz.prog cfL1:=cfAdd_ok (cfAdd_ok cf0_ok c172_ok) c219_ok
theorem line_209 (cs:List PV) (hv:closedL cs = true) (W:List (List UInt8)) (hw:CallOk Tryz.prog 306 [.agg cs] [] (.ret (.sl .a (W.map PV.str))) []) (hn:W.length ≤ 1000) (hne:W ≠ []) (hl:(Lib.join ([115,116,111,114,121] :: W) [32]).length ≤ 100000):CallOk Tryz.prog 166 [.iface 209 (.agg cs)] [] (.ret (.str (Lib.join ([115,116,111,114,121] :: W) [32]))) []:=by
 refine CallOk.of0 hTT Tryz.func166 rfl rfl ?_
 have hc:closedL (W.map PV.str) = true:=closedL_strs W
 have hd:decL decS (PV.str [115,116,111,114,121] :: W.map PV.str) = some ([115,116,111,114,121] :: W):=decSs_map ([115,116,111,114,121] :: W)
 have t3:(1 + W.length) * 16 ≤ 140737488355328:=by omega
 have t4:1 + W.length ≤ maxLen:=by unfold maxLen;omega
 have t5:1 + W.length ≤ 140737488355328:=by omega
 have t7:W.length + 1 = 1 + W.length:=by omega
 have t9:(Lib.join ([115,116,111,114,121] :: W) [32]).length ≤ 140737488355328:=by omega
 have hte:(W.map PV.str).isEmpty = false:=by
  cases W with
  | nil=>exact absurd rfl hne
  | cons x t=>rfl
 have hall:(W.map PV.str).all (fun y=>y.cells.length == 1) = true:=by rw [List.all_map];exact List.all_eq_true.2 fun _ _=>rfl
 simp only [PV.cells] at hall
 have hlt:ltBL 0 [.agg cs] = true:=by rw [ltBL_cons,ltB_of_closed 0 (.agg cs) hv];rfl
 have hvw:=fun sg=>mapO_cl sg cs hv
 generalize hJ:Lib.join ([115,116,111,114,121] :: W) [32] = J at t9 ⊢
 repeat (with_reducible (first | apply nx | apply wQ rfl | ((first | apply wV | apply wW | apply wX | (apply RunQ.drawn [] hTT (cfAt_ok cfL1_ok (ent Tryz.func306 rfl) hw hlt) meB_ok mixed;(focus kernel_rfl)));(focus (simp only [Tryz.f166,cfAt,cfL1,c172,c219,nmV,rowX,assertC,TyI.zeroE,TyD.ifc,TyD.ok,TyD.agg,meB_209,hv,hvw,hc,hd,hall,hte,t3,t4,t5,t7,t9,hJ,List.length_map,go_sem];rfl))) | refine RunQ.reg hTT (cfAt_ok cfL1_ok (ent Tryz.func306 rfl) hw hlt) meB_ok ?_ | (refine wa ?_;refine And.intro ?_ ?_;(focus kernel_rfl))))
 exact ⟨rfl,rfl,_,rfl,rfl⟩
theorem line_213 (cs:List PV) (hv:closedL cs = true) (W:List (List UInt8)) (hw:CallOk Tryz.prog 310 [.agg cs] [] (.ret (.sl .a (W.map PV.str))) []) (hn:W.length ≤ 1000) (hne:W ≠ []) (hl:(Lib.join ([115,99,101,110,101] :: W) [32]).length ≤ 100000):CallOk Tryz.prog 166 [.iface 213 (.agg cs)] [] (.ret (.str (Lib.join ([115,99,101,110,101] :: W) [32]))) []:=by
 refine CallOk.of0 hTT Tryz.func166 rfl rfl ?_
 have hc:closedL (W.map PV.str) = true:=closedL_strs W
 have hd:decL decS (PV.str [115,99,101,110,101] :: W.map PV.str) = some ([115,99,101,110,101] :: W):=decSs_map ([115,99,101,110,101] :: W)
 have t3:(1 + W.length) * 16 ≤ 140737488355328:=by omega
 have t4:1 + W.length ≤ maxLen:=by unfold maxLen;omega
 have t5:1 + W.length ≤ 140737488355328:=by omega
 have t7:W.length + 1 = 1 + W.length:=by omega
 have t9:(Lib.join ([115,99,101,110,101] :: W) [32]).length ≤ 140737488355328:=by omega
 have hte:(W.map PV.str).isEmpty = false:=by
  cases W with
  | nil=>exact absurd rfl hne
  | cons x t=>rfl
 have hall:(W.map PV.str).all (fun y=>y.cells.length == 1) = true:=by rw [List.all_map];exact List.all_eq_true.2 fun _ _=>rfl
 simp only [PV.cells] at hall
 have hlt:ltBL 0 [.agg cs] = true:=by rw [ltBL_cons,ltB_of_closed 0 (.agg cs) hv];rfl
 have hvw:=fun sg=>mapO_cl sg cs hv
 generalize hJ:Lib.join ([115,99,101,110,101] :: W) [32] = J at t9 ⊢
 repeat (with_reducible (first | apply nx | apply wQ rfl | ((first | apply wV | apply wW | apply wX | (apply RunQ.drawn [] hTT (cfAt_ok cfL1_ok (ent Tryz.func310 rfl) hw hlt) meB_ok mixed;(focus kernel_rfl)));(focus (simp only [Tryz.f166,cfAt,cfL1,c172,c219,nmV,rowX,assertC,TyI.zeroE,TyD.ifc,TyD.ok,TyD.agg,meB_213,hv,hvw,hc,hd,hall,hte,t3,t4,t5,t7,t9,hJ,List.length_map,go_sem];rfl))) | refine RunQ.reg hTT (cfAt_ok cfL1_ok (ent Tryz.func310 rfl) hw hlt) meB_ok ?_ | (refine wa ?_;refine And.intro ?_ ?_;(focus kernel_rfl))))
 exact ⟨rfl,rfl,_,rfl,rfl⟩
theorem line_212 (cs:List PV) (hv:closedL cs = true) (W:List (List UInt8)) (hw:CallOk Tryz.prog 308 [.agg cs] [] (.ret (.sl .a (W.map PV.str))) []) (hn:W.length ≤ 1000) (hne:W ≠ []) (hl:(Lib.join ([98,97,116,116,108,101] :: W) [32]).length ≤ 100000):CallOk Tryz.prog 166 [.iface 212 (.agg cs)] [] (.ret (.str (Lib.join ([98,97,116,116,108,101] :: W) [32]))) []:=by
 refine CallOk.of0 hTT Tryz.func166 rfl rfl ?_
 have hc:closedL (W.map PV.str) = true:=closedL_strs W
 have hd:decL decS (PV.str [98,97,116,116,108,101] :: W.map PV.str) = some ([98,97,116,116,108,101] :: W):=decSs_map ([98,97,116,116,108,101] :: W)
 have t3:(1 + W.length) * 16 ≤ 140737488355328:=by omega
 have t4:1 + W.length ≤ maxLen:=by unfold maxLen;omega
 have t5:1 + W.length ≤ 140737488355328:=by omega
 have t7:W.length + 1 = 1 + W.length:=by omega
 have t9:(Lib.join ([98,97,116,116,108,101] :: W) [32]).length ≤ 140737488355328:=by omega
 have hte:(W.map PV.str).isEmpty = false:=by
  cases W with
  | nil=>exact absurd rfl hne
  | cons x t=>rfl
 have hall:(W.map PV.str).all (fun y=>y.cells.length == 1) = true:=by rw [List.all_map];exact List.all_eq_true.2 fun _ _=>rfl
 simp only [PV.cells] at hall
 have hlt:ltBL 0 [.agg cs] = true:=by rw [ltBL_cons,ltB_of_closed 0 (.agg cs) hv];rfl
 have hvw:=fun sg=>mapO_cl sg cs hv
 generalize hJ:Lib.join ([98,97,116,116,108,101] :: W) [32] = J at t9 ⊢
 repeat (with_reducible (first | apply nx | apply wQ rfl | ((first | apply wV | apply wW | apply wX | (apply RunQ.drawn [] hTT (cfAt_ok cfL1_ok (ent Tryz.func308 rfl) hw hlt) meB_ok mixed;(focus kernel_rfl)));(focus (simp only [Tryz.f166,cfAt,cfL1,c172,c219,nmV,rowX,assertC,TyI.zeroE,TyD.ifc,TyD.ok,TyD.agg,meB_212,hv,hvw,hc,hd,hall,hte,t3,t4,t5,t7,t9,hJ,List.length_map,go_sem];rfl))) | refine RunQ.reg hTT (cfAt_ok cfL1_ok (ent Tryz.func308 rfl) hw hlt) meB_ok ?_ | (refine wa ?_;refine And.intro ?_ ?_;(focus kernel_rfl))))
 exact ⟨rfl,rfl,_,rfl,rfl⟩
theorem line_215 (cs:List PV) (hv:closedL cs = true) (W:List (List UInt8)) (hw:CallOk Tryz.prog 311 [.agg cs] [] (.ret (.sl .a (W.map PV.str))) []) (hn:W.length ≤ 1000) (hne:W ≠ []) (hl:(Lib.join ([114,117,108,101] :: W) [32]).length ≤ 100000):CallOk Tryz.prog 166 [.iface 215 (.agg cs)] [] (.ret (.str (Lib.join ([114,117,108,101] :: W) [32]))) []:=by
 refine CallOk.of0 hTT Tryz.func166 rfl rfl ?_
 have hc:closedL (W.map PV.str) = true:=closedL_strs W
 have hd:decL decS (PV.str [114,117,108,101] :: W.map PV.str) = some ([114,117,108,101] :: W):=decSs_map ([114,117,108,101] :: W)
 have t3:(1 + W.length) * 16 ≤ 140737488355328:=by omega
 have t4:1 + W.length ≤ maxLen:=by unfold maxLen;omega
 have t5:1 + W.length ≤ 140737488355328:=by omega
 have t7:W.length + 1 = 1 + W.length:=by omega
 have t9:(Lib.join ([114,117,108,101] :: W) [32]).length ≤ 140737488355328:=by omega
 have hte:(W.map PV.str).isEmpty = false:=by
  cases W with
  | nil=>exact absurd rfl hne
  | cons x t=>rfl
 have hall:(W.map PV.str).all (fun y=>y.cells.length == 1) = true:=by rw [List.all_map];exact List.all_eq_true.2 fun _ _=>rfl
 simp only [PV.cells] at hall
 have hlt:ltBL 0 [.agg cs] = true:=by rw [ltBL_cons,ltB_of_closed 0 (.agg cs) hv];rfl
 have hvw:=fun sg=>mapO_cl sg cs hv
 generalize hJ:Lib.join ([114,117,108,101] :: W) [32] = J at t9 ⊢
 repeat (with_reducible (first | apply nx | apply wQ rfl | ((first | apply wV | apply wW | apply wX | (apply RunQ.drawn [] hTT (cfAt_ok cfL1_ok (ent Tryz.func311 rfl) hw hlt) meB_ok mixed;(focus kernel_rfl)));(focus (simp only [Tryz.f166,cfAt,cfL1,c172,c219,nmV,rowX,assertC,TyI.zeroE,TyD.ifc,TyD.ok,TyD.agg,meB_215,hv,hvw,hc,hd,hall,hte,t3,t4,t5,t7,t9,hJ,List.length_map,go_sem];rfl))) | refine RunQ.reg hTT (cfAt_ok cfL1_ok (ent Tryz.func311 rfl) hw hlt) meB_ok ?_ | (refine wa ?_;refine And.intro ?_ ?_;(focus kernel_rfl))))
 exact ⟨rfl,rfl,_,rfl,rfl⟩
end Go.Pv
