/- Contracts: sure, given, the program's. -/
import Derived.Laws.RangeAny
import Derived.Laws.RangeString
import Derived.Test.YtkjalecddameoaaGreatDoorQlSplit
import Derived.Test.YtkjalecddameoaaGreatDoorQdWalk
import Derived.Test.YtkjalecddameoaaGreatDoorQlBook
set_option linter.all false
namespace Go.Pv
open Go Go.RowKit Go.Proofs
set_option maxRecDepth 200000
set_option maxHeartbeats 8000000
theorem cpv_i32 (n:Int) (h1:-2147483648 ≤ n) (h2:n ≤ 2147483647):cpv (.int .i32 n) = some (.int .i32 n):=by
 have hw:(Lit.int .i32 n).wf = true:=by simp [Lit.wf,IntKind.min,IntKind.max,IntKind.signed,IntKind.bits];omega
 simp [cpv,zpv,hw]
attribute [go_sem] nextC TyD.ifc cpv_i32
def noneV (w:List UInt8):PV:=.iface 223 (.agg [.str w])
theorem sure_ok (w:List UInt8):CallOk Tryz.prog 170 [.bool true,.str w] [] (.ret (.tuple [])) []:=by
 refine CallOk.of0 hTT Tryz.func170 rfl rfl ?_
 repeat (with_reducible (first | apply nx | apply wQ rfl | ((first | apply wV | apply wW | apply wX | (apply wy cf0_ok;(focus kernel_rfl)));(focus (simp only [Tryz.f170,go_sem];rfl))) | refine wz cf0_ok ?_ | (refine wa ?_;refine And.intro ?_ ?_;(focus kernel_rfl))))
 exact ⟨rfl,rfl,_,rfl,rfl⟩
theorem sure_no (w:List UInt8):CallOk Tryz.prog 170 [.bool false,.str w] [] (.pan (noneV w)) []:=by
 refine CallOk.ofPan Tryz.func170 rfl rfl ?_ (lt_of_closed (noneV w) rfl)
 repeat (with_reducible (first | apply nx | apply wQ rfl | ((first | apply wV | apply wW | apply wX | (apply wy cf0_ok;(focus kernel_rfl)));(focus (simp only [Tryz.f170,go_sem];rfl))) | refine wz cf0_ok ?_ | (refine wa ?_;refine And.intro ?_ ?_;(focus kernel_rfl))))
 refine RegQ.stop (v:=noneV w) (by simp only [go_sem];rfl) ?_
 repeat (with_reducible (first | apply nx | apply wQ rfl | ((first | apply wV | apply wW | apply wX | (apply wy cf0_ok;(focus kernel_rfl)));(focus (simp only [Tryz.f170,go_sem];rfl))) | refine wz cf0_ok ?_ | (refine wa ?_;refine And.intro ?_ ?_;(focus kernel_rfl))))
 exact ⟨rfl,rfl⟩
def sureR (b:Bool) (w:List UInt8):PRes:=if b = true then .ret (.tuple []) else .pan (noneV w)
def c170:List PV→List Box→Option (PRes × List Box)
 | [.bool b,.str w],sg=>some (sureR b w,sg)
 | _,_=>none
theorem c170_ok:ConOk Tryz.prog 170 c170:=ConOk.of0P (ent Tryz.func170 rfl) fun args sg r sg' h=>by
 unfold c170 at h
 split at h <;> cases h
 rename_i b w
 refine ⟨rfl,rfl,?_⟩
 unfold sureR
 cases b
 ·exact sure_no _
 ·exact sure_ok _
theorem dec_dig {m:List UInt8} {i:Nat} {b:UInt8} (hb:m[i]? = some b):(isDig b = true→Utf8.decode ⟨m.toArray⟩ i = (b.toNat,1))∧(((48:Int) ≤ ((Utf8.decode ⟨m.toArray⟩ i).1:Nat)∧(((Utf8.decode ⟨m.toArray⟩ i).1:Nat):Int) ≤ 57)↔isDig b = true)∧(Utf8.decode ⟨m.toArray⟩ i).1 ≤ 2147483647:=by
 have hlt:=(List.getElem?_eq_some_iff.1 hb).1
 have hs:i < (⟨m.toArray⟩:ByteArray).size:=by simpa [ByteArray.size] using hlt
 have hg:(⟨m.toArray⟩:ByteArray)[i]'hs = b:=by
  have:=(List.getElem?_eq_some_iff.1 hb).2
  show (m.toArray)[i]'(by simpa using hlt) = b
  simpa using this
 have hle:=decode_le ⟨m.toArray⟩ i
 by_cases ha:b.toNat < 128
 ·have hd:=decode_ascii ⟨m.toArray⟩ i hs (by rw [hg];exact ha)
  rw [hg] at hd
  rw [hd]
  refine ⟨fun _=>rfl,?_,by show b.toNat ≤ _;omega⟩
  rw [isDig_iff]
  constructor
  ·rintro ⟨h1,h2⟩
   have h1:(48:Int) ≤ (b.toNat:Nat):=h1
   have h2:((b.toNat:Nat):Int) ≤ 57:=h2
   omega
  ·rintro ⟨h1,h2⟩
   exact ⟨by show (48:Int) ≤ (b.toNat:Nat);omega,by show ((b.toNat:Nat):Int) ≤ 57;omega⟩
 ·have hd:=(decode_high ⟨m.toArray⟩ i hs (by rw [hg];omega)).1
  refine ⟨fun h=>?_,?_,hle⟩
  ·have:=(isDig_iff.1 h).2;omega
  ·rw [isDig_iff]
   omega
def givenV (l:List Int):PV:=.sl (if decide (l.length = 0) = true then .n else .a) (l.map ii)
def givenR (ws:List (List UInt8)):PRes:=match numsB ws with
 | .ok l=>.ret (givenV l)
 | .error e=>.pan (noneV e)
def givenQ (ws:List (List UInt8)) (o:Out) (st':St):Prop:=match numsB ws with
 | .ok l=>o.ends = true∧sameLoopsC [] st'.sg = true∧∃ v',resC TT st' Tryz.f171.results = some v'∧leaveC0 0 v' st'.sg = (givenV l,[])
 | .error e=>o = .panic (noneV e)∧sameLoopsC [] st'.sg = true
def cfN1:CallF:=cfAdd (cfAdd cf0 167 c167) 170 c170
theorem cfN1_ok:CallFOk Tryz.prog cfN1:=cfAdd_ok (cfAdd_ok cf0_ok c167_ok) c170_ok
theorem given_run (z:Z) (ws:List (List UInt8)) (hz:z = .n→ws = []) (hw:ws.length ≤ 100000) (hws:∀ x ∈ ws,x.length ≤ 100000) (c:Code) (hc:Tryz.f171.body = some c) :
 RunQ Tryz.prog c ⟨argT 0 [.sl z (ws.map PV.str)],55,[]⟩ (givenQ ws):=by
 obtain rfl:=Option.some.inj (show some _ = some c from hc)
 clear hc
 repeat (with_reducible (first | apply nx | apply wQ rfl | ((first | apply wV | apply wW | apply wX | (apply wy cf0_ok;(focus kernel_rfl)));(focus (simp only [Tryz.f171,List.length_map,go_sem];rfl))) | refine wz cf0_ok ?_ | (refine wa ?_;refine And.intro ?_ ?_;(focus kernel_rfl))))
 refine RunQ.keep [11,10,9,3] (by simp only [go_sem];rfl) ?_
 refine RunQ.nilRow 3 3 1 (by simp only [go_sem]) (by simp only [go_sem];rfl) (by simp only [go_sem];rfl) ?_
 have hT:givenQ ws = fun o st'=>(match numsB ws with
  | .ok l=>o.ends = true∧sameLoopsC [] st'.sg = true∧∃ v',resC TT st' Tryz.f171.results = some v'∧leaveC0 0 v' st'.sg = (givenV l,[])
  | .error e=>o = .panic (noneV e)∧sameLoopsC [] st'.sg = true):=rfl
 rw [hT]
 clear hT
 refine RunQ.loop (fun i s'=>∃ l:List Int,(numsB ws = match numsB (ws.drop i) with
  | .ok r=>.ok (l ++ r)
  | .error e=>.error e)∧l.length = i∧s' = ⟨[(11,ii i),(10,ii ws.length),(9,.sl z (ws.map PV.str)),(3,.ms 0 i)],55,[.row (decide (i = 0)) 3 1 (l.map ii) false]⟩) ws.length ⟨[],by rw [List.drop_zero];cases numsB ws <;> rfl,rfl,rfl⟩ ?_
 rintro i _ hi ⟨l,hm,hl,rfl⟩
 by_cases hlt:i < ws.length
 ·obtain ⟨x,hx⟩:∃ x,ws[i]? = some x:=⟨_,List.getElem?_eq_getElem hlt⟩
  have hx':(ws.map PV.str)[i]? = some (.str x):=by rw [List.getElem?_map,hx];rfl
  have hlt':(i:Int) < ws.length:=by omega
  have hz':z ≠ .n:=fun e=>by rw [hz e] at hlt;simp at hlt
  have e4:IntKind.i64.wrap ((i:Int) + 1) = ((i + 1:Nat):Int):=wrap_id (by omega) (by omega)
  have hxl:=hws x (List.mem_of_getElem? hx)
  have l1:i + 1 ≤ maxLen:=by unfold maxLen;omega
  have l2:(i + 1) * 8 ≤ 140737488355328:=by omega
  have hd1:decide (i + 1 = 0) = false:=by simp
  rw [drop_get hx] at hm
  have hbad:numU x = none→numsB ws = .error x:=fun hN=>by rw [hm,numsB,hN]
  have hgood:∀ n,numU x = some n→numsB ws = match numsB (ws.drop (i + 1)) with
   | .ok r=>.ok ((l ++ [n]) ++ r)
   | .error e=>.error e:=fun n hN=>by
   rw [hm,numsB,hN]
   dsimp only
   cases numsB (ws.drop (i + 1)) with
   | ok r=>simp
   | error e=>rfl
  have hF:(∀ n,digA 0 x = some n→x.length = 0 ∨ 3 < x.length)→numU x = none:=fun h=>by
   unfold numU
   split
   ·rfl
   ·rename_i hc
    cases hd:digA 0 x with
    | none=>rfl
    | some n=>exact absurd (h n hd) hc
  have hN:∀ n:Nat,digA 0 x = some n→1 ≤ x.length→x.length ≤ 3→numU x = if itoaF (n:Int) = x then some (n:Int) else none:=fun n h h1 h2=>by
   unfold numU
   rw [if_neg (by omega),h]
  clear hm
  repeat (with_reducible (first | apply nx | apply wQ rfl | ((first | apply wV | apply wW | apply wX | (apply wy cfN1_ok;(focus kernel_rfl)));(focus (simp only [Tryz.f171,hlt',hx',hz',List.length_map,go_sem];rfl))) | refine wz cfN1_ok ?_ | (refine wa ?_;refine And.intro ?_ ?_;(focus kernel_rfl))))
  refine RunQ.keep [16,6,5,11,10,9,3] (by simp only [go_sem];rfl) ?_
  refine RunQ.loop (fun k s'=>∃ n:Nat,digA 0 x = digA n (x.drop k)∧(k ≠ 0→x.length ≤ 3)∧n < 10 ^ k∧s' = ⟨[(16,.bp 1 0),(6,ii n),(5,.str x),(11,ii i),(10,ii ws.length),(9,.sl z (ws.map PV.str)),(3,.ms 0 i)],55,[.row (decide (i = 0)) 3 1 (l.map ii) false,.sit x k]⟩) x.length ⟨0,rfl,fun h=>absurd rfl h,by decide,rfl⟩ ?_
  rintro k _ hk ⟨n,hd,hk3,hn,rfl⟩
  by_cases hkl:k < x.length
  ·obtain ⟨b,hb⟩:∃ b,x[k]? = some b:=⟨_,List.getElem?_eq_getElem hkl⟩
   obtain ⟨d1,d2,d3⟩:=dec_dig hb
   have hwf:(Lit.int .i32 (((Utf8.decode ⟨x.toArray⟩ k).1:Nat):Int)).wf = true:=by
    have h0:(0:Int) ≤ ((Utf8.decode ⟨x.toArray⟩ k).1:Nat):=Int.natCast_nonneg _
    have h1:(((Utf8.decode ⟨x.toArray⟩ k).1:Nat):Int) ≤ 2147483647:=by omega
    generalize (((Utf8.decode ⟨x.toArray⟩ k).1:Nat):Int) = y at h0 h1
    simp [Lit.wf,IntKind.min,IntKind.max,IntKind.signed,IntKind.bits]
    omega
   have hpm:k ≤ maxLen:=by unfold maxLen;omega
   rw [drop_get hb] at hd
   by_cases hg:isDig b = true∧x.length ≤ 3
   ·obtain ⟨g1,g2⟩:=hg
    have hdec:=d1 g1
    obtain ⟨e1,e2⟩:=isDig_iff.1 g1
    have e1':(48:Int) ≤ ((b.toNat:Nat):Int):=by omega
    have e2':((b.toNat:Nat):Int) ≤ 57:=by omega
    have g2':(x.length:Int) ≤ 3:=by omega
    rw [hdec] at hwf
    have hwf:(Lit.int .i32 ((b.toNat:Nat):Int)).wf = true:=hwf
    have hd:digA 0 x = digA (10 * n + (b.toNat - 48)) (x.drop (k + 1)):=by
     rw [hd,digA,if_pos g1]
    have hn9:n < 1000:=by
     have:10 ^ k ≤ 10 ^ 3:=Nat.pow_le_pow_right (by decide) (by omega)
     omega
    have w1:IntKind.i64.wrap (10 * (n:Int)) = ((10 * n:Nat):Int):=(wrap_id (by omega) (by omega)).trans (by omega)
    have w2:IntKind.i32.wrap (((b.toNat:Nat):Int) - 48) = ((b.toNat - 48:Nat):Int):=by
     rw [show ((b.toNat:Nat):Int) - 48 = ((b.toNat - 48:Nat):Int) by omega]
     exact IntWalk.i32_in _ ⟨by omega,by omega⟩
    have w3:IntKind.i64.wrap ((b.toNat - 48:Nat):Int) = ((b.toNat - 48:Nat):Int):=wrap_id (by omega) (by omega)
    have w4:IntKind.i64.wrap (((10 * n:Nat):Int) + ((b.toNat - 48:Nat):Int)) = ((10 * n + (b.toNat - 48):Nat):Int):=(wrap_id (by omega) (by omega)).trans (by omega)
    have hlow:10 * n + (b.toNat - 48) < 10 ^ (k + 1):=by rw [Nat.pow_succ];omega
    generalize b.toNat - 48 = q at w2 w3 w4 hd hlow
    generalize 10 * n = p at w1 w4 hd hlow
    repeat (with_reducible (first | apply nx | apply wQ rfl | ((first | apply wV | apply wW | apply wX | (apply wy cfN1_ok;(focus kernel_rfl)));(focus (simp only [Tryz.f171,cfN1,c170,sureR,hkl,hdec,hwf,hpm,e1',e2',g2',w1,w2,w3,w4,ge_iff_le,go_sem];rfl))) | refine wz cfN1_ok ?_ | (refine wa ?_;refine And.intro ?_ ?_;(focus kernel_rfl))))
    refine roundQ.t 2 [16,6,5,11,10,9,3] hkl (by simp only [ltB_strs,ltB_is,go_sem]) ⟨p + q,hd,fun _=>g2,hlow,by simp only [go_sem]⟩
   ·have hno:numU x = none:=hF fun m hk=>by
     rcases Nat.lt_or_ge 3 x.length with h | h
     ·exact .inr h
     ·exfalso
      have hnd:isDig b = false:=by
       cases hx:isDig b
       ·rfl
       ·exact absurd ⟨hx,h⟩ hg
      rw [hd,digA,if_neg (by rw [hnd];simp)] at hk
      cases hk
    rw [hbad hno]
    dsimp only
    generalize hdc:(Utf8.decode ⟨x.toArray⟩ k) = dc at d1 d2 d3 hwf
    obtain ⟨rn,wd⟩:=dc
    have d2:((48:Int) ≤ (rn:Nat)∧((rn:Nat):Int) ≤ 57)↔isDig b = true:=d2
    have hwf:(Lit.int .i32 ((rn:Nat):Int)).wf = true:=hwf
    by_cases c1:(48:Int) ≤ (rn:Nat)
    ·by_cases c2:((rn:Nat):Int) ≤ 57
     ·have c3:¬ (x.length:Int) ≤ 3:=fun h=>hg ⟨d2.1 ⟨c1,c2⟩,by omega⟩
      repeat (with_reducible (first | apply nx | apply wQ rfl | ((first | apply wV | apply wW | apply wX | (apply wy cfN1_ok;(focus kernel_rfl)));(focus (simp only [Tryz.f171,cfN1,c170,sureR,hkl,hdc,hwf,hpm,c1,c2,c3,ge_iff_le,go_sem];rfl))) | refine wz cfN1_ok ?_ | (refine wa ?_;refine And.intro ?_ ?_;(focus kernel_rfl))))
      refine RegQ.stop (v:=noneV x) (by simp only [cfN1,c170,sureR,go_sem];rfl) ?_
      repeat (with_reducible (first | apply nx | apply wQ rfl | ((first | apply wV | apply wW | apply wX | (apply wy cfN1_ok;(focus kernel_rfl)));(focus (simp only [Tryz.f171,go_sem];rfl))) | refine wz cfN1_ok ?_ | (refine wa ?_;refine And.intro ?_ ?_;(focus kernel_rfl))))
      exact ⟨rfl,rfl⟩
     ·repeat (with_reducible (first | apply nx | apply wQ rfl | ((first | apply wV | apply wW | apply wX | (apply wy cfN1_ok;(focus kernel_rfl)));(focus (simp only [Tryz.f171,cfN1,c170,sureR,hkl,hdc,hwf,hpm,c1,c2,ge_iff_le,go_sem];rfl))) | refine wz cfN1_ok ?_ | (refine wa ?_;refine And.intro ?_ ?_;(focus kernel_rfl))))
      refine RegQ.stop (v:=noneV x) (by simp only [cfN1,c170,sureR,go_sem];rfl) ?_
      repeat (with_reducible (first | apply nx | apply wQ rfl | ((first | apply wV | apply wW | apply wX | (apply wy cfN1_ok;(focus kernel_rfl)));(focus (simp only [Tryz.f171,go_sem];rfl))) | refine wz cfN1_ok ?_ | (refine wa ?_;refine And.intro ?_ ?_;(focus kernel_rfl))))
      exact ⟨rfl,rfl⟩
    ·repeat (with_reducible (first | apply nx | apply wQ rfl | ((first | apply wV | apply wW | apply wX | (apply wy cfN1_ok;(focus kernel_rfl)));(focus (simp only [Tryz.f171,cfN1,c170,sureR,hkl,hdc,hwf,hpm,c1,ge_iff_le,go_sem];rfl))) | refine wz cfN1_ok ?_ | (refine wa ?_;refine And.intro ?_ ?_;(focus kernel_rfl))))
     refine RegQ.stop (v:=noneV x) (by simp only [cfN1,c170,sureR,go_sem];rfl) ?_
     repeat (with_reducible (first | apply nx | apply wQ rfl | ((first | apply wV | apply wW | apply wX | (apply wy cfN1_ok;(focus kernel_rfl)));(focus (simp only [Tryz.f171,go_sem];rfl))) | refine wz cfN1_ok ?_ | (refine wa ?_;refine And.intro ?_ ?_;(focus kernel_rfl))))
     exact ⟨rfl,rfl⟩
  ·obtain rfl:k = x.length:=by omega
   rw [List.drop_length] at hd
   have hd:digA 0 x = some n:=hd
   have hirr:¬ x.length < x.length:=Nat.lt_irrefl _
   by_cases h0:x.length = 0
   ·obtain rfl:x = []:=List.length_eq_zero_iff.1 h0
    have hno:numU [] = none:=rfl
    rw [hbad hno]
    dsimp only
    have hne:((([]:List UInt8) != []):Bool) = false:=rfl
    repeat (with_reducible (first | apply nx | apply wQ rfl | ((first | apply wV | apply wW | apply wX | (apply wy cfN1_ok;(focus kernel_rfl)));(focus (simp only [Tryz.f171,cfN1,c170,sureR,Nat.lt_irrefl,hne,List.length_nil,go_sem];rfl))) | refine wz cfN1_ok ?_ | (refine wa ?_;refine And.intro ?_ ?_;(focus kernel_rfl))))
    refine RegQ.stop (v:=noneV []) (by simp only [cfN1,c170,sureR,go_sem];rfl) ?_
    repeat (with_reducible (first | apply nx | apply wQ rfl | ((first | apply wV | apply wW | apply wX | (apply wy cfN1_ok;(focus kernel_rfl)));(focus (simp only [Tryz.f171,go_sem];rfl))) | refine wz cfN1_ok ?_ | (refine wa ?_;refine And.intro ?_ ?_;(focus kernel_rfl))))
    exact ⟨rfl,rfl⟩
   ·have h3:=hk3 h0
    have hNx:=hN n hd (by omega) h3
    have hn9:n < 1000:=by
     have:10 ^ x.length ≤ 10 ^ 3:=Nat.pow_le_pow_right (by decide) h3
     omega
    have hne:((x != []):Bool) = true:=bne_iff_ne.2 fun e=>h0 (by rw [e];rfl)
    have p1:-9223372036854775808 ≤ (n:Int):=by omega
    have p2:(n:Int) ≤ 9223372036854775807:=by omega
    have p3:(itoaF (n:Int)).length ≤ maxLen:=by have:=itoa_len3 (n:Int) (by omega);unfold maxLen;omega
    cases hit:(itoaF (n:Int) == x)
    ·have hno:numU x = none:=by rw [hNx,if_neg (beq_eq_false_iff_ne.1 hit)]
     rw [hbad hno]
     dsimp only
     repeat (with_reducible (first | apply nx | apply wQ rfl | ((first | apply wV | apply wW | apply wX | (apply wy cfN1_ok;(focus kernel_rfl)));(focus (simp only [Tryz.f171,cfN1,c170,c167,sureR,hirr,hne,p1,p2,p3,hit,go_sem];rfl))) | refine wz cfN1_ok ?_ | (refine wa ?_;refine And.intro ?_ ?_;(focus kernel_rfl))))
     refine RegQ.stop (v:=noneV x) (by simp only [cfN1,c170,sureR,go_sem];rfl) ?_
     repeat (with_reducible (first | apply nx | apply wQ rfl | ((first | apply wV | apply wW | apply wX | (apply wy cfN1_ok;(focus kernel_rfl)));(focus (simp only [Tryz.f171,go_sem];rfl))) | refine wz cfN1_ok ?_ | (refine wa ?_;refine And.intro ?_ ?_;(focus kernel_rfl))))
     exact ⟨rfl,rfl⟩
    ·have hyes:numU x = some (n:Int):=by rw [hNx,if_pos (eq_of_beq hit)]
     have hm:=hgood _ hyes
     generalize ((n:Nat):Int) = y at *
     repeat (with_reducible (first | apply nx | apply wQ rfl | ((first | apply wV | apply wW | apply wX | (apply wy cfN1_ok;(focus kernel_rfl)));(focus (simp only [Tryz.f171,cfN1,c170,c167,sureR,hirr,hne,p1,p2,p3,hit,hl,e4,l1,l2,List.length_map,go_sem];rfl))) | refine wz cfN1_ok ?_ | (refine wa ?_;refine And.intro ?_ ?_;(focus kernel_rfl))))
     refine roundQ.t 1 [11,10,9,3] hlt (by simp only [ltB_strs,ltB_is,ltBL_app,go_sem]) ⟨l ++ [y],hm,by simp [hl],by rw [List.map_append];simp only [hd1,go_sem]⟩
 ·have hlt':¬ (i:Int) < ws.length:=by omega
  obtain rfl:i = ws.length:=by omega
  rw [List.drop_length] at hm
  have hm:numsB ws = .ok l:=by rw [hm];simp [numsB]
  rw [hm]
  dsimp only
  repeat (with_reducible (first | apply nx | apply wQ rfl | ((first | apply wV | apply wW | apply wX | (apply wy cfN1_ok;(focus kernel_rfl)));(focus (simp only [Tryz.f171,hlt',List.length_map,go_sem];rfl))) | refine wz cfN1_ok ?_ | (refine wa ?_;refine And.intro ?_ ?_;(focus kernel_rfl))))
  unfold givenV
  rw [hl]
  exact ⟨rfl,rfl,_,rfl,leave_row (id:=0) (z:=decide (ws.length = 0)) (frz:=false) rfl (closedL_map (fun _=>rfl) _) (by rw [List.length_map,hl])⟩
theorem given_171 (z:Z) (ws:List (List UInt8)) (hz:z = .n→ws = []) (hw:ws.length ≤ 100000) (hws:∀ x ∈ ws,x.length ≤ 100000):CallOk Tryz.prog 171 [.sl z (ws.map PV.str)] [] (givenR ws) []:=by
 have h:=given_run z ws hz hw hws _ rfl
 unfold givenR
 cases hx:numsB ws with
 | error e =>
  refine CallOk.ofPan Tryz.func171 rfl rfl ?_ (lt_of_closed (noneV e) rfl)
  have hQ:givenQ ws = fun o st'=>o = .panic (noneV e)∧sameLoopsC [] st'.sg = true:=by funext o st';unfold givenQ;rw [hx]
  rw [hQ] at h
  exact h
 | ok l =>
  refine CallOk.ofF hTT Tryz.func171 rfl rfl ?_
  have hQ:givenQ ws = fun o st'=>o.ends = true∧sameLoopsC [] st'.sg = true∧∃ v',resC TT st' Tryz.f171.results = some v'∧leaveC0 0 v' st'.sg = (givenV l,[]):=by funext o st';unfold givenQ;rw [hx]
  rw [hQ] at h
  exact h
def c171:List PV→List Box→Option (PRes × List Box)
 | [.sl z es],sg=>match decL decS es with
  | some ws=>if (z = .n→ws = [])∧ws.length ≤ 100000∧(ws.all fun r=>decide (r.length ≤ 100000)) = true then some (givenR ws,sg) else none
  | none=>none
 | _,_=>none
theorem c171_ok:ConOk Tryz.prog 171 c171:=ConOk.of0P (ent Tryz.func171 rfl) fun args sg r sg' h=>by
 unfold c171 at h
 split at h <;> try (cases h;done)
 split at h <;> try (cases h;done)
 rename_i h1
 split at h <;> cases h
 rename_i hc
 obtain rfl:=decL_inv decS_inv h1
 exact ⟨rfl,by rw [ltBL_cons,ltB_sl,ltB_strs];rfl,given_171 _ _ hc.1 hc.2.1 (fun r hr=>by simpa using List.all_eq_true.1 hc.2.2 r hr)⟩
end Go.Pv
namespace Go.Pv
open Go Go.RowKit Go.Proofs
set_option maxRecDepth 200000
set_option maxHeartbeats 8000000
theorem leave_agr3 {sg:List Box} {a b:Nat} {z z' frz frz':Bool} {e e':TypeId} {k k':Nat} {es fs:List PV} (h:sg[a]? = some (.row z e k es frz)) (h':sg[b]? = some (.row z' e' k' fs frz')) (hne:a ≠ b) (hc:closedL es = true) (hc':closedL fs = true) {m m':Nat} (hm:m = es.length) (hm':m' = fs.length) {c:PV} (hcc:c.closed = true) :
 leaveC0 0 (.agg [c,.ms a m,.ms b m']) sg = (.agg [c,.sl (if z then .n else .a) es,.sl (if z' then .n else .a) fs],[]) :=
 leaveF (by
  have h2:(sg.set a (.row z e k es true))[b]? = some (.row z' e' k' fs frz'):=by rw [List.getElem?_set_ne hne];exact h'
  rw [frzX_agr (n:=7) (by simp [closedL,PV.closed])]
  simp only [frzL,frzX_closed (n:=6) hcc,frzX_row (n:=5) h hc hm,frzX_row (n:=5) h2 hc' hm']) (by simp [PV.closed,closedL,hc,hc',hcc])
theorem leave_agr4 {sg:List Box} {a b:Nat} {z z' frz frz':Bool} {e e':TypeId} {k k':Nat} {es fs:List PV} (h:sg[a]? = some (.row z e k es frz)) (h':sg[b]? = some (.row z' e' k' fs frz')) (hne:a ≠ b) (hc:closedL es = true) (hc':closedL fs = true) {m m':Nat} (hm:m = es.length) (hm':m' = fs.length) {c d:PV} (hcc:c.closed = true) (hd:d.closed = true) :
 leaveC0 0 (.tuple [.agg [c,.ms a m,.ms b m'],d]) sg = (.tuple [.agg [c,.sl (if z then .n else .a) es,.sl (if z' then .n else .a) fs],d],[]) :=
 leaveF (by
  have h2:(sg.set a (.row z e k es true))[b]? = some (.row z' e' k' fs frz'):=by rw [List.getElem?_set_ne hne];exact h'
  rw [frzX_tup (n:=7) (by simp [closedL,PV.closed])]
  simp only [frzL,frzX_agr (n:=6) (vs:=[c,.ms a m,.ms b m']) (by simp [closedL,PV.closed]),frzX_closed (n:=5) hcc,frzX_closed (n:=6) hd,frzX_row (n:=4) h hc hm,frzX_row (n:=4) h2 hc' hm']) (by simp [PV.closed,closedL,hc,hc',hcc,hd])
def rdZ (r:Rl):Rz:=(.a,r)
def rdS (e:Int) (S:List Sn) (R:List Rl):Sty:=⟨e,if decide (S.length = 0) = true then .n else .a,S,if decide (R.length = 0) = true then .n else .a,R.map rdZ⟩
theorem rdS_rl (e:Int) (S:List Sn) (R:List Rl):(rdS e S R).rl = R:=by
 show (R.map rdZ).map (·.2) = R
 rw [List.map_map]
 exact List.map_id' R
theorem zOk_len {es:List PV} {n:Nat} (h:n = es.length):zOk (if decide (n = 0) = true then Z.n else Z.a) es = true:=by
 cases es with
 | nil=>subst h;rfl
 | cons x l=>subst h;rfl
theorem rdS_ok (e:Int) (S:List Sn) (R:List Rl):(rdS e S R).ok = true:=by
 unfold Sty.ok
 have h1:zOk (rdS e S R).zs ((rdS e S R).sc.map encSn) = true:=zOk_len (by rw [List.length_map];rfl)
 have h2:zOk (rdS e S R).zr ((rdS e S R).rz.map encRz) = true:=zOk_len (by rw [List.length_map];show R.length = (R.map rdZ).length;rw [List.length_map])
 have h3:rzB (rdS e S R).rz = true:=List.all_eq_true.2 fun q hq=>by
  obtain ⟨r,_,rfl⟩:=List.mem_map.1 hq
  rfl
 rw [h1,h2,h3];rfl
def rdV (f:Int × List Sn × List Rl):PV:=.agg (rdS f.1 f.2.1 f.2.2).cells
def parsR (t:List UInt8):PRes:=match parsedB t with
 | .ok f=>.ret (rdV f)
 | .error e=>.pan (noneV e)
def parsQ (t:List UInt8) (o:Out) (st':St):Prop:=match parsedB t with
 | .ok f=>o.ends = true∧sameLoopsC [] st'.sg = true∧∃ v',resC TT st' Tryz.f119.results = some v'∧leaveC0 0 v' st'.sg = (rdV f,[])
 | .error e=>o = .panic (noneV e)∧sameLoopsC [] st'.sg = true
def c169s:List PV→List Box→Option (PRes × List Box)
 | [.str s,.str [c]],sg=>if s.length ≤ 100000 then some (.ret (.sl .f ((splF c s).map PV.str)),sg) else none
 | _,_=>none
theorem c169s_ok:ConOk Tryz.prog 169 c169s:=fun args sg r sg' h=>by
 unfold c169s at h
 split at h <;> try (cases h;done)
 split at h <;> cases h
 rename_i s c hc
 refine ⟨ent Tryz.func169 rfl,?_,SameLoops.refl _⟩
 have hl:=splF_len c s
 rw [← lib_split]
 rw [← lib_split] at hl
 exact Split_169 (by omega) (Nat.le_refl _) (List.all_eq_true.2 fun x hx=>Nat.ble_eq_true_of_le (by rw [lib_split] at hx;have:=splF_each hx;unfold maxLen;omega)) (by unfold maxLen;omega)
theorem beq_dec {α:Type} [DecidableEq α] [BEq α] [LawfulBEq α] (a b:α):(a == b) = decide (a = b):=by
 by_cases h:a = b
 ·subst h;simp
 ·rw [decide_eq_false h,beq_eq_false_iff_ne];exact h
def cfO1:CallF:=cfAdd (cfAdd (cfAdd (cfAdd (cfAdd cf0 169 c169s) 170 c170) 171 c171) 172 c172) 116 (conSnap c116)
theorem cfO1_ok:CallFOk Tryz.prog cfO1:=cfAdd_ok (cfAdd_ok (cfAdd_ok (cfAdd_ok (cfAdd_ok cf0_ok c169s_ok) c170_ok) c171_ok) c172_ok) c116_ok.snap
theorem parsed_run (t:List UInt8) (ht:t.length ≤ 500) (c:Code) (hc:Tryz.f119.body = some c):RunQ Tryz.prog c ⟨argT 0 [.str t],111,[]⟩ (parsQ t):=by
 obtain rfl:=Option.some.inj (show some _ = some c from hc)
 clear hc
 have ht':t.length ≤ 100000:=by omega
 have hW:=splF_len 10 t
 have hWe:∀ x ∈ splF 10 t,x.length ≤ 500:=fun x hx=>by have:=splF_each hx;omega
 have hE:parsedB t = (match splF 10 t with
  | r :: R=>if 2 ≤ R.length then
   match numsB (splF 32 r).tail with
   | .error e=>.error e
   | .ok n=>if n.length = 1 then
    match rowsE (R.take (R.length - 2)) with
    | .error e=>.error e
    | .ok f=>if textB (n.getD 0 0) f.1 f.2 = t then .ok (n.getD 0 0,f) else .error t
    else .error t
   else .error t
  | []=>.error t):=rfl
 generalize hWW:splF 10 t = W at hW hWe hE
 obtain ⟨r0,R,rfl⟩:∃ r R,W = r :: R:=by
  cases W with
  | nil=>simp at hW
  | cons r R=>exact ⟨r,R,rfl⟩
 dsimp only at hE
 have hr0:=hWe r0 (List.mem_cons_self ..)
 have hx0:((r0 :: R).map PV.str)[0]? = some (.str r0):=rfl
 have hWl:(r0 :: R).length = R.length + 1:=rfl
 have hall:∀ (B:List (List UInt8)),(B.map PV.str).all (fun y=>y.cells.length == 1) = true:=fun B=>by rw [List.all_map];exact List.all_eq_true.2 fun _ _=>rfl
 simp only [PV.cells] at hall
 have hall':=hall (r0 :: R)
 have hsl:2 ≤ R.length→((((r0 :: R).map PV.str).drop 1).take (R.length - 1 - 1)) = (R.take (R.length - 2)).map PV.str:=fun h=>by
  rw [List.map_cons,List.drop_succ_cons,List.drop_zero,← List.map_take]
  rfl
 have htl:∀ r:List UInt8,∃ w0 ws,splF 32 r = w0 :: ws:=fun r=>by
  have:=splF_len 32 r
  cases h:splF 32 r with
  | nil=>rw [h] at this;simp at this
  | cons a b=>exact ⟨a,b,rfl⟩
 have hsl1:∀ (w0:List UInt8) (ws:List (List UInt8)),(((w0 :: ws).map PV.str).drop 1).take ((w0 :: ws).length - 1) = ws.map PV.str:=fun w0 ws=>by
  rw [List.map_cons,List.drop_succ_cons,List.drop_zero]
  exact List.take_of_length_le (by simp)
 generalize hWg:r0 :: R = W at hx0 hWl hall' hsl hWW hW
 by_cases h3:2 ≤ R.length
 case neg =>
  rw [if_neg h3] at hE
  have hP:parsQ t = fun o st'=>o = .panic (noneV t)∧sameLoopsC [] st'.sg = true:=by funext o st';unfold parsQ;rw [hE]
  have hge:¬ (3:Int) ≤ ((W.length:Nat):Int):=by omega
  rw [hP]
  repeat (with_reducible (first | apply nx | apply wQ rfl | ((first | apply wV | apply wW | apply wX | (apply wy cfO1_ok;(focus kernel_rfl)));(focus (simp only [Tryz.f119,cfO1,c169s,c170,sureR,ht',hWW,hge,ge_iff_le,List.length_map,go_sem];rfl))) | refine wz cfO1_ok ?_ | (refine wa ?_;refine And.intro ?_ ?_;(focus kernel_rfl))))
  refine RegQ.stop (v:=noneV t) (by first | (simp only [cfO1,c170,sureR,go_sem];done) | (simp only [cfO1,c170,sureR,go_sem];rfl) | rfl) ?_
  repeat (with_reducible (first | apply nx | apply wQ rfl | ((first | apply wV | apply wW | apply wX | (apply wy cfO1_ok;(focus kernel_rfl)));(focus (simp only [Tryz.f119,go_sem];rfl))) | refine wz cfO1_ok ?_ | (refine wa ?_;refine And.intro ?_ ?_;(focus kernel_rfl))))
  exact ⟨rfl,rfl⟩
 rw [if_pos h3] at hE
 have hge:(3:Int) ≤ ((W.length:Nat):Int):=by omega
 have hl0:(0:Int) < ((W.length:Nat):Int):=by omega
 obtain ⟨v0,vs,hv⟩:=htl r0
 have hr0':r0.length ≤ 100000:=by omega
 have hvl:=splF_len 32 r0
 have hve:∀ x ∈ splF 32 r0,x.length ≤ 100000:=fun x hx=>by have:=splF_each hx;omega
 rw [hv,List.tail_cons] at hE
 rw [hv] at hvl hve
 have k1:(1:Int) ≤ (((v0 :: vs).length:Nat):Int):=by rw [List.length_cons];omega
 have k2:=hsl1 v0 vs
 have k3:=hall (v0 :: vs)
 have k4:(vs.all fun r=>decide (r.length ≤ 100000)) = true:=List.all_eq_true.2 fun x hx=>decide_eq_true (hve x (List.mem_cons_of_mem _ hx))
 have k5:vs.length ≤ 100000:=by rw [List.length_cons] at hvl;omega
 have k6:=decSs_map vs
 have k7:=closedL_strs vs
 unfold decSs at k6
 generalize hVg:v0 :: vs = V at k1 k2 k3 hv
 cases hT:numsB vs with
 | error e =>
  rw [hT] at hE
  have hP:parsQ t = fun o st'=>o = .panic (noneV e)∧sameLoopsC [] st'.sg = true:=by funext o st';unfold parsQ;rw [hE]
  rw [hP]
  have hR:givenR vs = .pan (noneV e):=by unfold givenR;rw [hT]
  repeat (with_reducible (first | apply nx | apply wQ rfl | ((first | apply wV | apply wW | apply wX | (apply wy cfO1_ok;(focus kernel_rfl)));(focus (simp only [Tryz.f119,cfO1,c169s,c170,c171,false_implies,sureR,ht',hWW,hge,hl0,hx0,hr0',hv,k1,k2,k3,k4,k5,k6,k7,hR,ge_iff_le,List.length_map,go_sem];rfl))) | refine wz cfO1_ok ?_ | (refine wa ?_;refine And.intro ?_ ?_;(focus kernel_rfl))))
  refine RegQ.stop (v:=noneV e) (by first | (simp only [cfO1,c171,k4,k5,k6,k7,hR,go_sem];done) | (simp only [cfO1,c171,k4,k5,k6,k7,hR,go_sem];rfl) | rfl) ?_
  repeat (with_reducible (first | apply nx | apply wQ rfl | ((first | apply wV | apply wW | apply wX | (apply wy cfO1_ok;(focus kernel_rfl)));(focus (simp only [Tryz.f119,go_sem];rfl))) | refine wz cfO1_ok ?_ | (refine wa ?_;refine And.intro ?_ ?_;(focus kernel_rfl))))
  exact ⟨rfl,rfl⟩
 | ok n =>
 rw [hT] at hE
 dsimp only at hE
 have hR:givenR vs = .ret (givenV n):=by unfold givenR;rw [hT]
 by_cases hn1:n.length = 1
 case neg =>
  rw [if_neg hn1] at hE
  have hP:parsQ t = fun o st'=>o = .panic (noneV t)∧sameLoopsC [] st'.sg = true:=by funext o st';unfold parsQ;rw [hE]
  rw [hP]
  have hb:(((n.length:Nat):Int) == 1) = false:=by rw [beq_eq_false_iff_ne];omega
  unfold givenV at hR
  generalize (if decide (n.length = 0) = true then Z.n else Z.a) = zz at hR
  repeat (with_reducible (first | apply nx | apply wQ rfl | ((first | apply wV | apply wW | apply wX | (apply wy cfO1_ok;(focus kernel_rfl)));(focus (simp only [Tryz.f119,cfO1,c169s,c170,c171,false_implies,sureR,ht',hWW,hge,hl0,hx0,hr0',hv,k1,k2,k3,k4,k5,k6,k7,hR,hb,ge_iff_le,List.length_map,go_sem];rfl))) | refine wz cfO1_ok ?_ | (refine wa ?_;refine And.intro ?_ ?_;(focus kernel_rfl))))
  refine RegQ.stop (v:=noneV t) (by first | (simp only [cfO1,c170,sureR,go_sem];done) | (simp only [cfO1,c170,sureR,go_sem];rfl) | rfl) ?_
  repeat (with_reducible (first | apply nx | apply wQ rfl | ((first | apply wV | apply wW | apply wX | (apply wy cfO1_ok;(focus kernel_rfl)));(focus (simp only [Tryz.f119,go_sem];rfl))) | refine wz cfO1_ok ?_ | (refine wa ?_;refine And.intro ?_ ?_;(focus kernel_rfl))))
  exact ⟨rfl,rfl⟩
 rw [if_pos hn1] at hE
 obtain ⟨n0,rfl⟩:∃ n0,n = [n0]:=by
  match n,hn1 with
  | [a],_=>exact ⟨a,rfl⟩
 rw [show ([n0]:List Int).getD 0 0 = n0 from rfl] at hE
 have hn0:0 ≤ n0∧n0 < 1000:=(numsU_small (numsB_ok.1 hT)).2 n0 (by simp)
 have hR:givenR vs = .ret (.sl .a [ii n0]):=hR
 have hb:(((1:Nat):Int) == 1) = true:=rfl
 have hsl:=hsl h3
 have hall2:∀ x ∈ R.take (R.length - 2),x.length ≤ 500:=fun x hx=>hWe x (List.mem_cons_of_mem _ (List.mem_of_mem_take hx))
 have hwsl:(R.take (R.length - 2)).length = R.length - 2:=by rw [List.length_take];omega
 obtain ⟨m,hm⟩:∃ m,R.length = m + 2:=⟨R.length - 2,by omega⟩
 rw [hm] at hsl hwsl hall2 hE hWl
 have em:m + 2 - 1 - 1 = m:=by omega
 have em2:m + 2 - 2 = m:=by omega
 rw [em] at hsl
 rw [em2] at hsl hwsl hall2 hE
 generalize R.take m = ws at hsl hwsl hall2 hE
 have e26:IntKind.i64.wrap (((W.length:Nat):Int) - 2) = ((m + 1:Nat):Int):=(wrap_id (by omega) (by omega)).trans (by omega)
 have f1:(1:Int) ≤ ((m + 1:Nat):Int):=by omega
 have f2:((m + 1:Nat):Int) ≤ ((W.length:Nat):Int):=by omega
 have em3:m + 1 - 1 = m:=by omega
 have hml:m ≤ 500:=by omega
 repeat (with_reducible (first | apply nx | apply wQ rfl | ((first | apply wV | apply wW | apply wX | (apply wy cfO1_ok;(focus kernel_rfl)));(focus (simp only [Tryz.f119,cfO1,c169s,c170,c171,false_implies,sureR,ht',hWW,hge,hl0,hx0,hr0',hv,k1,k2,k3,k4,k5,k6,k7,hR,hb,e26,f1,f2,em3,hsl,hall',ge_iff_le,List.length_map,go_sem];rfl))) | refine wz cfO1_ok ?_ | (refine wa ?_;refine And.intro ?_ ?_;(focus kernel_rfl))))
 refine RunQ.keep [39,38,37,5,2,0] (by simp only [go_sem];rfl) ?_
 refine RunQ.nilBox 1 1 120 5 rfl rfl rfl ?_
 refine RunQ.nilBox 1 2 80 2 rfl rfl rfl ?_
 have hP:parsQ t = fun o st'=>(match (match rowsE ws with
  | .error e=>Except.error e
  | .ok f=>if textB n0 f.1 f.2 = t then .ok (n0,f) else .error t) with
  | .ok f=>o.ends = true∧sameLoopsC [] st'.sg = true∧∃ v',resC TT st' Tryz.f119.results = some v'∧leaveC0 0 v' st'.sg = (rdV f,[])
  | .error e=>o = .panic (noneV e)∧sameLoopsC [] st'.sg = true):=by
  funext o st'
  unfold parsQ
  rw [hE]
 rw [hP]
 clear hP hE hsl hall' hx0 hWW hW k1 k2 k3 k4 k5 k6 k7 hv hvl hve hVg hR hT
 refine RunQ.loop (fun i s'=>∃ (S:List Sn) (L:List Rl),(rowsE ws = match rowsE (ws.drop i) with
  | .ok f=>.ok (S ++ f.1,L ++ f.2)
  | .error e=>.error e)∧S.length ≤ i∧L.length ≤ i∧s' = ⟨[(39,ii i),(38,ii ws.length),(37,.sl .a (ws.map PV.str)),(5,.bp 1 0),(2,.bp 0 0),(0,.str t)],111,[.var [ii 0,.sl .n [],.sl .n []] false,.var [ii n0,.ms 2 S.length,.ms 3 L.length] false,.row (decide (S.length = 0)) 120 5 (S.map encSn) false,.row (decide (L.length = 0)) 80 2 ((L.map rdZ).map encRz) false]⟩) ws.length ⟨[],[],by rw [List.drop_zero];cases rowsE ws <;> rfl,Nat.zero_le _,Nat.zero_le _,by first | (simp only [go_sem];done) | (simp only [go_sem];rfl) | rfl⟩ ?_
 rintro i _ hi ⟨S,L,hm1,hSl,hLl,rfl⟩
 by_cases hlt:i < ws.length
 ·obtain ⟨x,hx⟩:∃ x,ws[i]? = some x:=⟨_,List.getElem?_eq_getElem hlt⟩
  have hx':(ws.map PV.str)[i]? = some (.str x):=by rw [List.getElem?_map,hx];rfl
  have hlt':(i:Int) < ws.length:=by omega
  have e4:IntKind.i64.wrap ((i:Int) + 1) = ((i + 1:Nat):Int):=wrap_id (by omega) (by omega)
  have hxl:x.length ≤ 100000:=by have:=hall2 x (List.mem_of_getElem? hx);omega
  obtain ⟨w0,us,hv⟩:=htl x
  have hvl:=splF_len 32 x
  have hve:∀ y ∈ splF 32 x,y.length ≤ 100000:=fun y hy=>by have:=splF_each hy;omega
  rw [drop_get hx,rowsE,hv,List.tail_cons,show (w0 :: us).getD 0 [] = w0 from rfl] at hm1
  rw [hv] at hvl hve
  have q1:S.length + 1 ≤ maxLen:=by unfold maxLen;omega
  have q2:(S.length + 1) * 32 ≤ 140737488355328:=by omega
  have q3:L.length + 1 ≤ maxLen:=by unfold maxLen;omega
  have q4:(L.length + 1) * 32 ≤ 140737488355328:=by omega
  have y0:(0:Int) < (((w0 :: us).length:Nat):Int):=by rw [List.length_cons];omega
  have y1:((w0 :: us).map PV.str)[0]? = some (.str w0):=rfl
  by_cases hw0:w0 = ruW
  ·have hwb:(w0 == [114,117,108,101]) = true:=beq_iff_eq.2 hw0
   rw [if_pos hw0] at hm1
   have k1:(1:Int) ≤ (((w0 :: us).length:Nat):Int):=by rw [List.length_cons];omega
   have k2:=hsl1 w0 us
   have k3:=hall (w0 :: us)
   have k4:(us.all fun r=>decide (r.length ≤ 100000)) = true:=List.all_eq_true.2 fun y hy=>decide_eq_true (hve y (List.mem_cons_of_mem _ hy))
   have k5:us.length ≤ 100000:=by rw [List.length_cons] at hvl;omega
   have k6:=decSs_map us
   have k7:=closedL_strs us
   unfold decSs at k6
   generalize hVg:w0 :: us = V at y0 y1 k1 k2 k3 hv
   cases hT:numsB us with
   | error e =>
    have hR:givenR us = .pan (noneV e):=by unfold givenR;rw [hT]
    rw [hT] at hm1
    have hm1:rowsE ws = .error e:=hm1
    rw [hm1]
    dsimp only
    repeat (with_reducible (first | apply nx | apply wQ rfl | ((first | apply wV | apply wW | apply wX | (apply wy cfO1_ok;(focus kernel_rfl)));(focus (simp only [Tryz.f119,cfO1,c169s,c170,c171,false_implies,c172,nmV,sureR,hlt',hx',hxl,hv,y0,y1,hwb,k1,k2,k3,k4,k5,k6,k7,hR,List.length_map,go_sem];rfl))) | refine wz cfO1_ok ?_ | (refine wa ?_;refine And.intro ?_ ?_;(focus kernel_rfl))))
    refine RegQ.stop (v:=noneV e) (by first | (simp only [cfO1,c171,k4,k5,k6,k7,hR,go_sem];done) | (simp only [cfO1,c171,k4,k5,k6,k7,hR,go_sem];rfl) | rfl) ?_
    repeat (with_reducible (first | apply nx | apply wQ rfl | ((first | apply wV | apply wW | apply wX | (apply wy cfO1_ok;(focus kernel_rfl)));(focus (simp only [Tryz.f119,go_sem];rfl))) | refine wz cfO1_ok ?_ | (refine wa ?_;refine And.intro ?_ ?_;(focus kernel_rfl))))
    exact ⟨rfl,rfl⟩
   | ok l =>
    have hR:givenR us = .ret (givenV l):=by unfold givenR;rw [hT]
    rw [hT] at hm1
    cases l with
    | nil =>
     have hR:givenR us = .ret (.sl .n []):=hR
     have hm1:rowsE ws = .error x:=hm1
     have hb:¬ (1:Int) ≤ ((0:Nat):Int):=by decide
     rw [hm1]
     dsimp only
     repeat (with_reducible (first | apply nx | apply wQ rfl | ((first | apply wV | apply wW | apply wX | (apply wy cfO1_ok;(focus kernel_rfl)));(focus (simp only [Tryz.f119,cfO1,c169s,c170,c171,false_implies,c172,nmV,sureR,hlt',hx',hxl,hv,y0,y1,hwb,k1,k2,k3,k4,k5,k6,k7,hR,hb,ge_iff_le,List.length_map,List.length_nil,go_sem];rfl))) | refine wz cfO1_ok ?_ | (refine wa ?_;refine And.intro ?_ ?_;(focus kernel_rfl))))
     refine RegQ.stop (v:=noneV x) (by first | (simp only [cfO1,c170,sureR,go_sem];done) | (simp only [cfO1,c170,sureR,go_sem];rfl) | rfl) ?_
     repeat (with_reducible (first | apply nx | apply wQ rfl | ((first | apply wV | apply wW | apply wX | (apply wy cfO1_ok;(focus kernel_rfl)));(focus (simp only [Tryz.f119,go_sem];rfl))) | refine wz cfO1_ok ?_ | (refine wa ?_;refine And.intro ?_ ?_;(focus kernel_rfl))))
     exact ⟨rfl,rfl⟩
    | cons n l =>
     have hR:givenR us = .ret (.sl .a (ii n :: l.map ii)):=hR
     have hm2:rowsE ws = match rowsE (ws.drop (i + 1)) with
      | .ok f=>.ok (S ++ f.1,(L ++ [⟨n,l⟩]) ++ f.2)
      | .error e=>.error e:=by
      rw [hm1]
      dsimp only
      cases rowsE (ws.drop (i + 1)) with
      | ok f=>simp
      | error e=>rfl
     have hb:(1:Int) ≤ ((l.length + 1:Nat):Int):=by omega
     have hb0:(0:Int) < ((l.length + 1:Nat):Int):=by omega
     have hls:((ii n :: l.map ii).drop 1).take (l.length + 1 - 1) = l.map ii:=by
      rw [List.drop_succ_cons,List.drop_zero]
      exact List.take_of_length_le (by simp)
     have hal:(ii n :: l.map ii).all (fun y=>y.cells.length == 1) = true:=List.all_eq_true.2 fun y hy=>by
      rcases List.mem_cons.1 hy with rfl | hy
      ·rfl
      ·obtain ⟨a,_,rfl⟩:=List.mem_map.1 hy;rfl
     simp only [PV.cells] at hal
     have hli:=closedL_is l
     have hd1:decide (L.length + 1 = 0) = false:=by simp
     have htk:(l.map ii).take (l.length + 1 - 1) = l.map ii:=List.take_of_length_le (by simp)
     repeat (with_reducible (first | apply nx | apply wQ rfl | ((first | apply wV | apply wW | apply wX | (apply wy cfO1_ok;(focus kernel_rfl)));(focus (simp only [Tryz.f119,cfO1,c169s,c170,c171,false_implies,c172,nmV,sureR,hlt',hx',hxl,hv,y0,y1,hwb,k1,k2,k3,k4,k5,k6,k7,hR,hb,hb0,hls,hal,hli,htk,e4,q3,q4,ge_iff_le,List.length_map,go_sem];rfl))) | refine wz cfO1_ok ?_ | (refine wa ?_;refine And.intro ?_ ?_;(focus kernel_rfl))))
     refine roundQ.t 4 [39,38,37,5,2,0] hlt (by simp only [ltB_strs,ltB_sns,ltB_rzs,ltB_is,ltBL_app,go_sem]) ⟨S,L ++ [⟨n,l⟩],hm2,by omega,by simp;omega,by rw [List.map_append,List.map_append];first | (simp only [hd1,go_sem];done) | (simp only [hd1,go_sem];rfl) | rfl⟩
  ·have hwb:(w0 == [114,117,108,101]) = false:=beq_eq_false_iff_ne.2 hw0
   rw [if_neg hw0] at hm1
   by_cases hl5:(w0 :: us).length = 5
   case neg =>
    rw [if_neg hl5] at hm1
    have hm1:rowsE ws = .error x:=hm1
    have hb:((((w0 :: us).length:Nat):Int) == 5) = false:=by rw [beq_eq_false_iff_ne];omega
    generalize hVg:w0 :: us = V at y0 y1 hb hv
    rw [hm1]
    dsimp only
    repeat (with_reducible (first | apply nx | apply wQ rfl | ((first | apply wV | apply wW | apply wX | (apply wy cfO1_ok;(focus kernel_rfl)));(focus (simp only [Tryz.f119,cfO1,c169s,c170,c172,nmV,sureR,hlt',hx',hxl,hv,y0,y1,hwb,hb,List.length_map,go_sem];rfl))) | refine wz cfO1_ok ?_ | (refine wa ?_;refine And.intro ?_ ?_;(focus kernel_rfl))))
    refine RegQ.stop (v:=noneV x) (by first | (simp only [cfO1,c170,sureR,go_sem];done) | (simp only [cfO1,c170,sureR,go_sem];rfl) | rfl) ?_
    repeat (with_reducible (first | apply nx | apply wQ rfl | ((first | apply wV | apply wW | apply wX | (apply wy cfO1_ok;(focus kernel_rfl)));(focus (simp only [Tryz.f119,go_sem];rfl))) | refine wz cfO1_ok ?_ | (refine wa ?_;refine And.intro ?_ ?_;(focus kernel_rfl))))
    exact ⟨rfl,rfl⟩
   rw [if_pos hl5] at hm1
   obtain ⟨w1,w2,w3,w4,rfl⟩:∃ w1 w2 w3 w4,us = [w1,w2,w3,w4]:=by
    match us,hl5 with
    | [a,b,c,d],_=>exact ⟨a,b,c,d,rfl⟩
   have hv:splF 32 x = [w0,w1,w2,w3,w4]:=hv
   have hm1:rowsE ws = match (match numsB [w1,w2,w3] with
    | .error e=>Except.error e
    | .ok n=>match rowsE (ws.drop (i + 1)) with
     | .error e=>.error e
     | .ok f=>.ok (sceneW [w0,w1,w2,w3,w4] n :: f.1,f.2)) with
    | .ok f=>.ok (S ++ f.1,L ++ f.2)
    | .error e=>.error e:=hm1
   have k6:decL decS [.str w1,.str w2,.str w3] = some [w1,w2,w3]:=rfl
   have u1:=hve w1 (by simp)
   have u2:=hve w2 (by simp)
   have u3:=hve w3 (by simp)
   have hb5:(((5:Nat):Int) == 5) = true:=rfl
   cases hT:numsB [w1,w2,w3] with
   | error e =>
    have hR:givenR [w1,w2,w3] = .pan (noneV e):=by unfold givenR;rw [hT]
    rw [hT] at hm1
    have hm1:rowsE ws = .error e:=hm1
    rw [hm1]
    dsimp only
    repeat (with_reducible (first | apply nx | apply wQ rfl | ((first | apply wV | apply wW | apply wX | (apply wy cfO1_ok;(focus kernel_rfl)));(focus (simp only [Tryz.f119,cfO1,c169s,c170,c171,false_implies,c172,nmV,sureR,hlt',hx',hxl,hv,hwb,hb5,k6,u1,u2,u3,hR,List.length_map,go_sem];rfl))) | refine wz cfO1_ok ?_ | (refine wa ?_;refine And.intro ?_ ?_;(focus kernel_rfl))))
    refine RegQ.stop (v:=noneV e) (by first | (simp only [cfO1,c171,k6,u1,u2,u3,hR,go_sem];done) | (simp only [cfO1,c171,k6,u1,u2,u3,hR,go_sem];rfl) | rfl) ?_
    repeat (with_reducible (first | apply nx | apply wQ rfl | ((first | apply wV | apply wW | apply wX | (apply wy cfO1_ok;(focus kernel_rfl)));(focus (simp only [Tryz.f119,go_sem];rfl))) | refine wz cfO1_ok ?_ | (refine wa ?_;refine And.intro ?_ ?_;(focus kernel_rfl))))
    exact ⟨rfl,rfl⟩
   | ok n =>
    have hn3:=(numsU_small (numsB_ok.1 hT)).1
    obtain ⟨a,b,c,rfl⟩:∃ a b c,n = [a,b,c]:=by
     match n,hn3 with
     | [a,b,c],_=>exact ⟨a,b,c,rfl⟩
    have hR:givenR [w1,w2,w3] = .ret (.sl .a [ii a,ii b,ii c]):=by unfold givenR;rw [hT];rfl
    rw [hT] at hm1
    dsimp only at hm1
    have hsc:sceneW [w0,w1,w2,w3,w4] [a,b,c] = ⟨a,b,c,w0 == baW,w4 == [33]⟩:=by
     unfold sceneW
     rw [beq_dec w0 baW,beq_dec w4 [33]]
     rfl
    rw [hsc] at hm1
    have hm2:rowsE ws = match rowsE (ws.drop (i + 1)) with
     | .ok f=>.ok ((S ++ [⟨a,b,c,w0 == baW,w4 == [33]⟩]) ++ f.1,L ++ f.2)
     | .error e=>.error e:=by
     rw [hm1]
     cases rowsE (ws.drop (i + 1)) with
     | ok f=>simp
     | error e=>rfl
    have hba:(w0 == [98,97,116,116,108,101]) = (w0 == baW):=rfl
    generalize (w0 == baW) = lo at hba hm2
    generalize hfo:(w4 == [33]) = fo at hm2
    have hd1:decide (S.length + 1 = 0) = false:=by simp
    repeat (with_reducible (first | apply nx | apply wQ rfl | ((first | apply wV | apply wW | apply wX | (apply wy cfO1_ok;(focus kernel_rfl)));(focus (simp only [Tryz.f119,cfO1,c169s,c170,c171,false_implies,c172,nmV,sureR,hlt',hx',hxl,hv,hwb,hba,hfo,hb5,k6,u1,u2,u3,hR,e4,q1,q2,List.length_map,go_sem];rfl))) | refine wz cfO1_ok ?_ | (refine wa ?_;refine And.intro ?_ ?_;(focus kernel_rfl))))
    refine roundQ.t 4 [39,38,37,5,2,0] hlt (by simp only [ltB_strs,ltB_sns,ltB_rzs,ltBL_app,go_sem]) ⟨S ++ [⟨a,b,c,lo,fo⟩],L,hm2,by simp;omega,by omega,by rw [List.map_append];first | (simp only [hd1,go_sem];done) | (simp only [hd1,go_sem];rfl) | rfl⟩
 ·have hlt':¬ (i:Int) < ws.length:=by omega
  obtain rfl:i = ws.length:=by omega
  rw [List.drop_length] at hm1
  have hm1:rowsE ws = .ok (S,L):=by rw [hm1];simp [rowsE]
  have hsm:=rowsE_small hm1
  have hln:=rowsE_len (k:=500) hm1 hall2
  have hB:BigB n0 S L:={ he:=hn0,hs:=hsm.1,hr:=hsm.2,ls:=by have:=hln.1;dsimp only at this;omega,lt:=fun r hr=>by have:=hln.2 r hr;omega }
  have hbb:bigB (rdS n0 S L).e (rdS n0 S L).sc (rdS n0 S L).rl = true:=by rw [rdS_rl];exact big_iff.2 hB
  obtain ⟨zS,hzS⟩:∃ b,b = decide (S.length = 0):=⟨_,rfl⟩
  obtain ⟨zR,hzR⟩:∃ b,b = decide (L.length = 0):=⟨_,rfl⟩
  rw [← hzS,← hzR]
  have hd:decSt (.agg [ii n0,.sl (if zS = true then .n else .a) (S.map encSn),.sl (if zR = true then .n else .a) ((L.map rdZ).map encRz)]) = some (rdS n0 S L):=by rw [hzS,hzR];exact decSt_cells (rdS n0 S L) (rdS_ok n0 S L)
  have htx:textB (rdS n0 S L).e (rdS n0 S L).sc (rdS n0 S L).rl = textB n0 S L:=by rw [rdS_rl];rfl
  have hrv:rdV (n0,S,L) = .agg [ii n0,.sl (if zS = true then .n else .a) (S.map encSn),.sl (if zR = true then .n else .a) ((L.map rdZ).map encRz)]:=by rw [hzS,hzR];rfl
  clear hzS hzR
  have hc1:=closedL_sns S
  have hc2:=closedL_rzs (L.map rdZ)
  have hLl2:((L.map rdZ).map encRz).length = L.length:=by simp
  rw [hm1]
  dsimp only
  clear hm1 hsm hln hB
  generalize rdS n0 S L = s at hbb hd htx
  by_cases hte:textB n0 S L = t
  ·have hte':(textB s.e s.sc s.rl == t) = true:=by rw [htx,hte];exact beq_self_eq_true _
   rw [if_pos hte]
   dsimp only
   rw [hrv]
   repeat (with_reducible (first | apply nx | apply wQ rfl | ((first | apply wV | apply wW | apply wX | (apply wy cfO1_ok;(focus kernel_rfl)));(focus (simp only [Tryz.f119,cfO1,conSnap,c116,c170,sureR,hlt',hbb,hd,hc1,hc2,hte',hLl2,List.length_map,go_sem];rfl))) | refine wz cfO1_ok ?_ | (refine wa ?_;refine And.intro ?_ ?_;(focus kernel_rfl))))
   exact ⟨rfl,rfl,_,rfl,leave_agr3 (a:=2) (b:=3) rfl rfl (by decide) hc1 hc2 (by rw [List.length_map]) hLl2.symm rfl⟩
  ·have hte':(textB s.e s.sc s.rl == t) = false:=beq_eq_false_iff_ne.2 (by rw [htx];exact hte)
   rw [if_neg hte]
   dsimp only
   repeat (with_reducible (first | apply nx | apply wQ rfl | ((first | apply wV | apply wW | apply wX | (apply wy cfO1_ok;(focus kernel_rfl)));(focus (simp only [Tryz.f119,cfO1,conSnap,c116,c170,sureR,hlt',hbb,hd,hc1,hc2,hte',hLl2,List.length_map,go_sem];rfl))) | refine wz cfO1_ok ?_ | (refine wa ?_;refine And.intro ?_ ?_;(focus kernel_rfl))))
   refine RegQ.stop (v:=noneV t) (by first | (simp only [cfO1,c170,sureR,go_sem];done) | (simp only [cfO1,c170,sureR,go_sem];rfl) | rfl) ?_
   repeat (with_reducible (first | apply nx | apply wQ rfl | ((first | apply wV | apply wW | apply wX | (apply wy cfO1_ok;(focus kernel_rfl)));(focus (simp only [Tryz.f119,go_sem];rfl))) | refine wz cfO1_ok ?_ | (refine wa ?_;refine And.intro ?_ ?_;(focus kernel_rfl))))
   exact ⟨rfl,rfl⟩
theorem parsed_119 (t:List UInt8) (ht:t.length ≤ 500):CallOk Tryz.prog 119 [.str t] [] (parsR t) []:=by
 have h:=parsed_run t ht _ rfl
 unfold parsR
 cases hx:parsedB t with
 | error e =>
  refine CallOk.ofPan Tryz.func119 rfl rfl ?_ (lt_of_closed (noneV e) rfl)
  have hQ:parsQ t = fun o st'=>o = .panic (noneV e)∧sameLoopsC [] st'.sg = true:=by funext o st';unfold parsQ;rw [hx]
  rw [hQ] at h
  exact h
 | ok f =>
  refine CallOk.ofF hTT Tryz.func119 rfl rfl ?_
  have hQ:parsQ t = fun o st'=>o.ends = true∧sameLoopsC [] st'.sg = true∧∃ v',resC TT st' Tryz.f119.results = some v'∧leaveC0 0 v' st'.sg = (rdV f,[]):=by funext o st';unfold parsQ;rw [hx]
  rw [hQ] at h
  exact h
end Go.Pv
