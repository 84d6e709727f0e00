/- Contracts: the reference's Split. -/
import Derived.Test.YtkjalecddameoaaGreatDoorQlPrint
import Derived.Test.YtkjalecddameoaaGreatDoorQfTry
import Derived.Test.YtkjalecddameoaaGreatDoorQlPlain
import Derived.Test.YtkjalecddameoaaGreatDoorQgWords
set_option linter.all false
namespace Go.Pv
open Go Go.RowKit Go.Proofs
set_option maxRecDepth 200000
set_option maxHeartbeats 8000000
theorem Split_122 (s:List UInt8) (c:UInt8) (hs:s.length ≤ 100000):CallOk Tryz.prog 122 [.str s,.int .u8 c.toNat] [] (.ret (.sl .a ((splF c s).map PV.str))) []:=by
 refine CallOk.ofF hTT Tryz.func122 rfl rfl ?_
 repeat (with_reducible (first | apply nx | apply wQ rfl | ((first | apply wV | apply wW | apply wX | (apply wy cf0_ok;(focus kernel_rfl)));(focus (simp only [Tryz.f122,go_sem];rfl))) | refine wz cf0_ok ?_ | (refine wa ?_;refine And.intro ?_ ?_;(focus kernel_rfl))))
 refine RunQ.keep [7,6,5,0,1] (by simp only [go_sem];rfl) ?_
 refine RunQ.nilRow 5 9 1 (by simp only [go_sem]) (by simp only [go_sem];rfl) (by simp only [go_sem];rfl) ?_
 refine RunQ.loop (fun i s'=>∃ (O:List (List UInt8)) (fr:Nat),splF c s = O ++ splA c ((s.drop fr).take (i - fr)) (s.drop i)∧fr ≤ i∧O.length ≤ i∧s' = ⟨[(7,ii i),(6,ii fr),(5,.ms 0 O.length),(0,.str s),(1,.int .u8 c.toNat)],34,[.row (decide (O.length = 0)) 9 1 (O.map PV.str) false]⟩) s.length ⟨[],0,rfl,Nat.le_refl _,Nat.le_refl _,rfl⟩ ?_
 rintro i _ hi ⟨O,fr,hO,hfi,hOl,rfl⟩
 have l1:O.length + 1 ≤ maxLen:=by unfold maxLen;omega
 have l2:(O.length + 1) * 16 ≤ 140737488355328:=by omega
 have f0:(fr:Int) ≤ (i:Int):=by omega
 have hall:∀ (B:List (List UInt8)),(B.map PV.str).all (fun y=>y.cells.length == 1) = true:=fun B=>by rw [List.all_map];exact List.all_eq_true.2 fun _ _=>rfl
 by_cases hlt:i < s.length
 ·obtain ⟨b,hb⟩:∃ b,s[i]? = some b:=⟨_,List.getElem?_eq_getElem hlt⟩
  have hlt':(i:Int) < s.length:=by omega
  have e4:IntKind.i64.wrap ((i:Int) + 1) = ((i + 1:Nat):Int):=wrap_id (by omega) (by omega)
  have f1:(i:Int) ≤ s.length:=by omega
  rw [drop_get hb] at hO
  unfold splA at hO
  by_cases hbc:b = c
  ·rw [if_pos hbc] at hO
   have hbb:(((b.toNat:Nat):Int) == ((c.toNat:Nat):Int)) = true:=by rw [hbc];exact beq_self_eq_true _
   have hd1:decide (O.length + 1 = 0) = false:=by simp
   repeat (with_reducible (first | apply nx | apply wQ rfl | ((first | apply wV | apply wW | apply wX | (apply wy cf0_ok;(focus kernel_rfl)));(focus (simp only [Tryz.f122,hlt',hb,hbb,e4,f0,f1,l1,l2,List.length_map,go_sem];rfl))) | refine wz cf0_ok ?_ | (refine wa ?_;refine And.intro ?_ ?_;(focus kernel_rfl))))
   refine roundQ.t 1 [7,6,5,0,1] hlt (by simp only [ltB_strs,ltBL_app,go_sem]) ⟨O ++ [(s.drop fr).take (i - fr)],i + 1,by rw [hO,Nat.sub_self,List.take_zero,List.append_assoc];rfl,Nat.le_refl _,by simp;omega,by rw [List.map_append,List.length_append];simp only [hd1,go_sem]⟩
  ·rw [if_neg hbc] at hO
   have hbb:(((b.toNat:Nat):Int) == ((c.toNat:Nat):Int)) = false:=by
    rw [beq_eq_false_iff_ne]
    intro e
    exact hbc (UInt8.toNat_inj.1 (by omega))
   have htk:(s.drop fr).take (i - fr) ++ [b] = (s.drop fr).take (i + 1 - fr):=by
    rw [show i + 1 - fr = i - fr + 1 by omega,List.take_add_one,List.getElem?_drop,show fr + (i - fr) = i by omega,hb]
    rfl
   rw [htk] at hO
   repeat (with_reducible (first | apply nx | apply wQ rfl | ((first | apply wV | apply wW | apply wX | (apply wy cf0_ok;(focus kernel_rfl)));(focus (simp only [Tryz.f122,hlt',hb,hbb,e4,f0,f1,l1,l2,List.length_map,go_sem];rfl))) | refine wz cf0_ok ?_ | (refine wa ?_;refine And.intro ?_ ?_;(focus kernel_rfl))))
   refine roundQ.t 1 [7,6,5,0,1] hlt (by simp only [ltB_strs,go_sem]) ⟨O,fr,hO,by omega,by omega,by simp only [go_sem]⟩
 ·have hlt':¬ (i:Int) < s.length:=by omega
  obtain rfl:i = s.length:=by omega
  rw [List.drop_length] at hO
  have hO:splF c s = O ++ [(s.drop fr).take (s.length - fr)]:=hO
  repeat (with_reducible (first | apply nx | apply wQ rfl | ((first | apply wV | apply wW | apply wX | (apply wy cf0_ok;(focus kernel_rfl)));(focus (simp only [Tryz.f122,hlt',f0,l1,l2,List.length_map,go_sem];rfl))) | refine wz cf0_ok ?_ | (refine wa ?_;refine And.intro ?_ ?_;(focus kernel_rfl))))
  rw [hO]
  exact ⟨rfl,rfl,_,rfl,(leave_row (id:=0) (z:=false) (frz:=false) (m:=O.length + 1) (es:=O.map PV.str ++ [.str ((s.drop fr).take (s.length - fr))]) rfl (by rw [← List.map_singleton (f:=PV.str),← List.map_append];exact closedL_strs _) (by simp)).trans (by rw [List.map_append];rfl)⟩
end Go.Pv
namespace Go.Pv
open Go Go.RowKit Go.Proofs
set_option maxRecDepth 200000
set_option maxHeartbeats 8000000
theorem cpv_u8 (n:Int) (h1:0 ≤ n) (h2:n ≤ 255):cpv (.int .u8 n) = some (.int .u8 n):=by
 have hw:(Lit.int .u8 n).wf = true:=by simp [Lit.wf,IntKind.min,IntKind.max,IntKind.signed,IntKind.bits];omega
 simp [cpv,zpv,hw]
attribute [go_sem] cpv_u8
theorem u48:cpv (.int .u8 48) = some (.int .u8 48):=cpv_u8 48 (by decide) (by decide)
theorem u57:cpv (.int .u8 57) = some (.int .u8 57):=cpv_u8 57 (by decide) (by decide)
def num3 (w:List UInt8):Int × Bool:=if w.length = 0 ∨ 3 < w.length then (0,false) else
 match digA 0 w with
 | none=>(0,false)
 | some n=>((n:Int),decide (itoaF (n:Int) = w))
def cfL5:CallF:=cfAdd cf0 173 c173
theorem cfL5_ok:CallFOk Tryz.prog cfL5:=cfAdd_ok cf0_ok c173_ok
theorem Number_174 (w:List UInt8) (hw:w.length ≤ 100000):CallOk Tryz.prog 174 [.str w,ii 3] [] (.ret (.tuple [ii (num3 w).1,.bool (num3 w).2])) []:=by
 refine CallOk.of0 hTT Tryz.func174 rfl rfl ?_
 by_cases h0:w.length = 0
 ·have hb:((w.length:Int) == 0) = true:=by rw [h0];rfl
  have hn:num3 w = (0,false):=by unfold num3;rw [if_pos (.inl h0)]
  rw [hn]
  repeat (with_reducible (first | apply nx | apply wQ rfl | ((first | apply wV | apply wW | apply wX | (apply wy cf0_ok;(focus kernel_rfl)));(focus (simp only [Tryz.f174,hb,go_sem];rfl))) | refine wz cf0_ok ?_ | (refine wa ?_;refine And.intro ?_ ?_;(focus kernel_rfl))))
  exact ⟨rfl,rfl,_,rfl,rfl⟩
 have hb:((w.length:Int) == 0) = false:=by rw [beq_eq_false_iff_ne];omega
 by_cases h3:3 < w.length
 ·have hg:(3:Int) < (w.length:Int):=by omega
  have hn:num3 w = (0,false):=by unfold num3;rw [if_pos (.inr h3)]
  rw [hn]
  repeat (with_reducible (first | apply nx | apply wQ rfl | ((first | apply wV | apply wW | apply wX | (apply wy cf0_ok;(focus kernel_rfl)));(focus (simp only [Tryz.f174,hb,hg,gt_iff_lt,go_sem];rfl))) | refine wz cf0_ok ?_ | (refine wa ?_;refine And.intro ?_ ?_;(focus kernel_rfl))))
  exact ⟨rfl,rfl,_,rfl,rfl⟩
 have hg:¬ (3:Int) < (w.length:Int):=by omega
 have hn:num3 w = match digA 0 w with | none=>(0,false) | some n=>((n:Int),decide (itoaF (n:Int) = w)):=by unfold num3;rw [if_neg (by omega)]
 repeat (with_reducible (first | apply nx | apply wQ rfl | ((first | apply wV | apply wW | apply wX | (apply wy cf0_ok;(focus kernel_rfl)));(focus (simp only [Tryz.f174,hb,hg,gt_iff_lt,go_sem];rfl))) | refine wz cf0_ok ?_ | (refine wa ?_;refine And.intro ?_ ?_;(focus kernel_rfl))))
 refine RunQ.keep [7,6,0] (by simp only [go_sem];rfl) ?_
 refine RunQ.loop (fun i s'=>∃ d:Nat,digA 0 w = digA d (w.drop i)∧d < 10 ^ i∧s' = ⟨[(7,ii (i:Nat)),(6,ii (d:Nat)),(0,.str w)],46,[]⟩) w.length ⟨0,by rw [List.drop_zero],by decide,rfl⟩ ?_
 rintro i _ hi ⟨d,hd,hdl,rfl⟩
 have h10:10 ^ i ≤ 10 ^ 3:=Nat.pow_le_pow_right (by decide) (by omega)
 by_cases hlt:i < w.length
 ·obtain ⟨b,hbb⟩:∃ b,w[i]? = some b:=⟨_,List.getElem?_eq_getElem hlt⟩
  have hlt':(i:Int) < w.length:=by omega
  have e4:IntKind.i64.wrap ((i:Int) + 1) = ((i + 1:Nat):Int):=wrap_id (by omega) (by omega)
  have hxl:=b.toNat_lt
  rw [drop_get hbb] at hd
  by_cases c1:b.toNat < 48
  ·have c1':((b.toNat:Nat):Int) < 48:=by omega
   have hdn:digA 0 w = none:=by rw [hd];unfold digA;rw [if_neg];intro e;have:=isDig_iff.1 e;omega
   rw [hdn] at hn
   rw [hn]
   repeat (with_reducible (first | apply nx | apply wQ rfl | ((first | apply wV | apply wW | apply wX | (apply wy cf0_ok;(focus kernel_rfl)));(focus (simp only [Tryz.f174,hlt',hbb,u48,u57,c1',gt_iff_lt,go_sem];rfl))) | refine wz cf0_ok ?_ | (refine wa ?_;refine And.intro ?_ ?_;(focus kernel_rfl))))
   exact ⟨rfl,rfl,_,rfl,rfl⟩
  have c1':¬ ((b.toNat:Nat):Int) < 48:=by omega
  by_cases c2:57 < b.toNat
  ·have c2':(57:Int) < ((b.toNat:Nat):Int):=by omega
   have hdn:digA 0 w = none:=by rw [hd];unfold digA;rw [if_neg];intro e;have:=isDig_iff.1 e;omega
   rw [hdn] at hn
   rw [hn]
   repeat (with_reducible (first | apply nx | apply wQ rfl | ((first | apply wV | apply wW | apply wX | (apply wy cf0_ok;(focus kernel_rfl)));(focus (simp only [Tryz.f174,hlt',hbb,u48,u57,c1',c2',gt_iff_lt,go_sem];rfl))) | refine wz cf0_ok ?_ | (refine wa ?_;refine And.intro ?_ ?_;(focus kernel_rfl))))
   exact ⟨rfl,rfl,_,rfl,rfl⟩
  have c2':¬ (57:Int) < ((b.toNat:Nat):Int):=by omega
  have hdg:isDig b = true:=isDig_iff.2 ⟨by omega,by omega⟩
  have hds:digA 0 w = digA (10 * d + (b.toNat - 48)) (w.drop (i + 1)):=by rw [hd,digA,if_pos hdg]
  have w1:IntKind.i64.wrap (10 * (d:Int)) = ((10 * d:Nat):Int):=(wrap_id (by omega) (by omega)).trans (by omega)
  have w2:IntKind.u8.wrap (((b.toNat:Nat):Int) - 48) = ((b.toNat - 48:Nat):Int):=(wrap8 (by omega) (by omega)).trans (by omega)
  have w3:IntKind.i64.wrap ((b.toNat - 48:Nat):Int) = ((b.toNat - 48:Nat):Int):=wrap_id (by omega) (by omega)
  have w4:IntKind.i64.wrap (((10 * d:Nat):Int) + ((b.toNat - 48:Nat):Int)) = ((10 * d + (b.toNat - 48):Nat):Int):=(wrap_id (by omega) (by omega)).trans (by omega)
  repeat (with_reducible (first | apply nx | apply wQ rfl | ((first | apply wV | apply wW | apply wX | (apply wy cf0_ok;(focus kernel_rfl)));(focus (simp only [Tryz.f174,hlt',hbb,u48,u57,c1',c2',w1,w2,w3,w4,e4,gt_iff_lt,go_sem];rfl))) | refine wz cf0_ok ?_ | (refine wa ?_;refine And.intro ?_ ?_;(focus kernel_rfl))))
  refine roundQ.t 0 [7,6,0] hlt (by simp only [ltB_is,go_sem]) ⟨10 * d + (b.toNat - 48),hds,by rw [Nat.pow_succ];omega,by simp only [go_sem]⟩
 ·have hlt':¬ (i:Int) < w.length:=by omega
  obtain rfl:i = w.length:=by omega
  rw [List.drop_eq_nil_of_le (by omega)] at hd
  have hd:digA 0 w = some d:=hd
  rw [hd] at hn
  rw [hn]
  have hdn:((d:Nat):Int).natAbs < 1000000:=by omega
  have hbe:(itoaF (d:Int) == w) = decide (itoaF (d:Int) = w):=by by_cases h:itoaF (d:Int) = w <;> simp [h]
  repeat (with_reducible (first | apply nx | apply wQ rfl | ((first | apply wV | apply wW | apply wX | (apply wy cfL5_ok;(focus kernel_rfl)));(focus (simp only [Tryz.f174,cfL5,c173,hlt',hdn,hbe,go_sem];rfl))) | refine wz cfL5_ok ?_ | (refine wa ?_;refine And.intro ?_ ?_;(focus kernel_rfl))))
  exact ⟨rfl,rfl,_,rfl,rfl⟩
end Go.Pv
namespace Go.Pv
open Go Go.RowKit Go.Proofs
set_option maxRecDepth 200000
set_option maxHeartbeats 8000000
theorem num3_no {w:List UInt8} (h:(num3 w).2 = false):numU w = none:=by
 unfold num3 at h
 unfold numU
 split
 ·rfl
 ·rename_i h0
  rw [if_neg h0] at h
  cases hd:digA 0 w with
  | none=>rfl
  | some n =>
   rw [hd] at h
   exact if_neg (of_decide_eq_false h)
theorem num3_yes {w:List UInt8} (h:(num3 w).2 = true):numU w = some (num3 w).1:=by
 unfold num3 at h ⊢
 unfold numU
 split
 ·rename_i h0
  rw [if_pos h0] at h
  cases h
 ·rename_i h0
  rw [if_neg h0] at h
  cases hd:digA 0 w with
  | none=>rw [hd] at h;cases h
  | some n =>
   rw [hd] at h
   exact if_pos (of_decide_eq_true h)
def c174:List PV→List Box→Option (PRes × List Box)
 | [.str w,.int .i64 n],sg=>if n = 3∧w.length ≤ 100000 then some (.ret (.tuple [ii (num3 w).1,.bool (num3 w).2]),sg) else none
 | _,_=>none
theorem c174_ok:ConOk Tryz.prog 174 c174:=ConOk.of0 (ent Tryz.func174 rfl) fun args sg r sg' h=>by
 unfold c174 at h
 split at h <;> try (cases h;done)
 split at h <;> cases h
 rename_i hc
 obtain ⟨rfl,hc⟩:=hc
 exact ⟨_,rfl,rfl,rfl,Number_174 _ hc⟩
def numsR (ws:List (List UInt8)):PV:=match numsU ws with
 | some l=>.tuple [.sl (if decide (l.length = 0) = true then .n else .a) (l.map ii),.bool true]
 | none=>.tuple [.sl .n [],.bool false]
def cfM5:CallF:=cfAdd cf0 174 c174
theorem cfM5_ok:CallFOk Tryz.prog cfM5:=cfAdd_ok cf0_ok c174_ok
theorem Numbers_123 (z:Z) (ws:List (List UInt8)) (hz:z = .n→ws = []) (hw:ws.length ≤ 100000) (hl:∀ x ∈ ws,x.length ≤ 100000):CallOk Tryz.prog 123 [.sl z (ws.map PV.str),ii 3] [] (.ret (numsR ws)) []:=by
 refine CallOk.ofF hTT Tryz.func123 rfl rfl ?_
 unfold numsR
 repeat (with_reducible (first | apply nx | apply wQ rfl | ((first | apply wV | apply wW | apply wX | (apply wy cfM5_ok;(focus kernel_rfl)));(focus (simp only [Tryz.f123,go_sem];rfl))) | refine wz cfM5_ok ?_ | (refine wa ?_;refine And.intro ?_ ?_;(focus kernel_rfl))))
 refine RunQ.keep [7,6,0,1] (by simp only [go_sem];rfl) ?_
 refine RunQ.nilRow 6 3 1 (by simp only [go_sem]) (by simp only [go_sem];rfl) (by simp only [go_sem];rfl) ?_
 refine RunQ.loop (fun i s'=>∃ l:List Int,(numsU ws = match numsU (ws.drop i) with
  | some r=>some (l ++ r)
  | none=>none)∧l.length = i∧s' = ⟨[(7,ii i),(6,.ms 0 i),(0,.sl z (ws.map PV.str)),(1,ii 3)],32,[.row (decide (i = 0)) 3 1 (l.map ii) false]⟩) ws.length ⟨[],by rw [List.drop_zero];cases numsU ws <;> rfl,rfl,rfl⟩ ?_
 rintro i _ hi ⟨l,hm,hll,rfl⟩
 by_cases hlt:i < ws.length
 ·obtain ⟨x,hx⟩:∃ x,ws[i]? = some x:=⟨_,List.getElem?_eq_getElem hlt⟩
  have hx':(ws.map PV.str)[i]? = some (.str x):=by rw [List.getElem?_map,hx];rfl
  have hlt':(i:Int) < ws.length:=by omega
  have hz':z ≠ .n:=fun e=>by rw [hz e] at hlt;simp at hlt
  have e4:IntKind.i64.wrap ((i:Int) + 1) = ((i + 1:Nat):Int):=wrap_id (by omega) (by omega)
  have hxl:=hl x (List.mem_of_getElem? hx)
  have l1:i + 1 ≤ maxLen:=by unfold maxLen;omega
  have l2:(i + 1) * 8 ≤ 140737488355328:=by omega
  have hd1:decide (i + 1 = 0) = false:=by simp
  rw [drop_get hx] at hm
  cases h2:(num3 x).2
  ·have hN:numU x = none:=num3_no h2
   have hm:numsU ws = none:=by rw [hm,numsU,hN]
   rw [hm]
   dsimp only
   repeat (with_reducible (first | apply nx | apply wQ rfl | ((first | apply wV | apply wW | apply wX | (apply wy cfM5_ok;(focus kernel_rfl)));(focus (simp only [Tryz.f123,cfM5,c174,hlt',hx',hz',hxl,h2,List.length_map,go_sem];rfl))) | refine wz cfM5_ok ?_ | (refine wa ?_;refine And.intro ?_ ?_;(focus kernel_rfl))))
   exact ⟨rfl,rfl,_,rfl,leave_closed rfl⟩
  ·have hN:numU x = some (num3 x).1:=num3_yes h2
   have hm:numsU ws = match numsU (ws.drop (i + 1)) with
    | some r=>some ((l ++ [(num3 x).1]) ++ r)
    | none=>none:=by
    rw [hm,numsU,hN]
    cases numsU (ws.drop (i + 1)) with
    | some r=>simp
    | none=>rfl
   generalize h1n:(num3 x).1 = n at hm
   repeat (with_reducible (first | apply nx | apply wQ rfl | ((first | apply wV | apply wW | apply wX | (apply wy cfM5_ok;(focus kernel_rfl)));(focus (simp only [Tryz.f123,cfM5,c174,hlt',hx',hz',hxl,h2,h1n,e4,hll,l1,l2,List.length_map,go_sem];rfl))) | refine wz cfM5_ok ?_ | (refine wa ?_;refine And.intro ?_ ?_;(focus kernel_rfl))))
   refine roundQ.t 1 [7,6,0,1] hlt (by simp only [ltB_strs,ltB_is,ltBL_app,go_sem]) ⟨l ++ [n],hm,by simp [hll],by rw [List.map_append];simp only [hd1,go_sem]⟩
 ·have hlt':¬ (i:Int) < ws.length:=by omega
  obtain rfl:i = ws.length:=by omega
  rw [List.drop_length] at hm
  have hm:numsU ws = some l:=by rw [hm];simp [numsU]
  rw [hm]
  dsimp only
  repeat (with_reducible (first | apply nx | apply wQ rfl | ((first | apply wV | apply wW | apply wX | (apply wy cfM5_ok;(focus kernel_rfl)));(focus (simp only [Tryz.f123,hlt',List.length_map,go_sem];rfl))) | refine wz cfM5_ok ?_ | (refine wa ?_;refine And.intro ?_ ?_;(focus kernel_rfl))))
  exact ⟨rfl,rfl,_,rfl,by rw [hll];exact leave_row2 (id:=0) (z:=decide (ws.length = 0)) (frz:=false) rfl (closedL_map (fun _=>rfl) _) (by rw [List.length_map,hll]) rfl⟩
def c123:List PV→List Box→Option (PRes × List Box)
 | [.sl z es,.int .i64 k],sg=>match decL decS es with
  | some ws=>if k = 3∧(z = .n→ws = [])∧ws.length ≤ 100000∧(ws.all fun r=>decide (r.length ≤ 100000)) = true then some (.ret (numsR ws),sg) else none
  | none=>none
 | _,_=>none
theorem c123_ok:ConOk Tryz.prog 123 c123:=ConOk.of0 (ent Tryz.func123 rfl) fun args sg r sg' h=>by
 unfold c123 at h
 split at h <;> try (cases h;done)
 split at h <;> try (cases h;done)
 rename_i h1
 split at h <;> cases h
 rename_i hc
 obtain rfl:=decL_inv decS_inv h1
 obtain ⟨rfl,h2,h3,h4⟩:=hc
 exact ⟨_,rfl,rfl,by rw [ltBL_cons,ltB_sl,ltB_strs];rfl,Numbers_123 _ _ h2 h3 (fun r hr=>by simpa using List.all_eq_true.1 h4 r hr)⟩
end Go.Pv
