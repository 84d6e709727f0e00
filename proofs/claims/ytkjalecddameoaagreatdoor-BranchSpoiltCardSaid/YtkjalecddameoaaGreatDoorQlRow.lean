/- Contracts: numbers, rows of words, the reference's. -/
import Derived.Test.YtkjalecddameoaaGreatDoorQlPlain
import Derived.Test.YtkjalecddameoaaGreatDoorQfGrow
import Derived.Test.YtkjalecddameoaaGreatDoorQfLem
set_option linter.all false
namespace Go.Pv
open Go Go.RowKit Go.Proofs
set_option maxRecDepth 200000
set_option maxHeartbeats 8000000
attribute [go_sem] convC bytesC isU8
theorem wrap8 {n:Int} (h0:0 ≤ n) (h1:n ≤ 255):IntKind.u8.wrap n = n:=IntWalk.u8_in n ⟨h0,h1⟩
theorem Decimal_173:∀ (k:Nat) (n:Int),n.natAbs < 10 ^ (k + 1)→k ≤ 5→CallOk Tryz.prog 173 [ii n] [] (.ret (.str (itoaF n))) []:=fun k=>by
 induction k with
 | zero =>
  intro n h _
  refine CallOk.of0 hTT Tryz.func173 rfl rfl ?_
  have h:n.natAbs < 10:=by simpa using h
  by_cases h0:n < 0
  ·rw [itoa_a (by omega) h0]
   have g1:(-10:Int) < n:=by omega
   have g2:IntKind.i64.wrap (48 - n) = 48 - n:=wrap_id (by omega) (by omega)
   have g3:IntKind.u8.wrap (48 - n) = 48 - n:=wrap8 (by omega) (by omega)
   repeat (with_reducible (first | apply nx | apply wQ rfl | ((first | apply wV | apply wW | apply wX | (apply wy cf0_ok;(focus kernel_rfl)));(focus (simp only [Tryz.f173,h0,g1,g2,g3,gt_iff_lt,go_sem];rfl))) | refine wz cf0_ok ?_ | (refine wa ?_;refine And.intro ?_ ?_;(focus kernel_rfl))))
   exact ⟨rfl,rfl,_,rfl,rfl⟩
  ·rw [itoa_c (by omega) (by omega)]
   have g1:(-10:Int) < n:=by omega
   have g4:n < 10:=by omega
   have g2:IntKind.i64.wrap (48 + n) = 48 + n:=wrap_id (by omega) (by omega)
   have g3:IntKind.u8.wrap (48 + n) = 48 + n:=wrap8 (by omega) (by omega)
   repeat (with_reducible (first | apply nx | apply wQ rfl | ((first | apply wV | apply wW | apply wX | (apply wy cf0_ok;(focus kernel_rfl)));(focus (simp only [Tryz.f173,h0,g1,g2,g3,g4,gt_iff_lt,go_sem];rfl))) | refine wz cf0_ok ?_ | (refine wa ?_;refine And.intro ?_ ?_;(focus kernel_rfl))))
   exact ⟨rfl,rfl,_,rfl,rfl⟩
 | succ k ih =>
  intro n h hk
  refine CallOk.of0 hTT Tryz.func173 rfl rfl ?_
  have h6:10 ^ (k + 1 + 1) ≤ 10 ^ 6:=Nat.pow_le_pow_right (by decide) (by omega)
  have h10:10 ^ (k + 1 + 1) = 10 ^ (k + 1) * 10:=Nat.pow_succ ..
  have hl10:∀ m:Int,m.natAbs < 10 ^ (k + 1)→(itoaF m).length + 1 ≤ maxLen:=fun m hm=>by
   have:=itoa_len k m hm (by omega)
   unfold maxLen;omega
  by_cases h0:n < 0
  ·by_cases g1:(-10:Int) < n
   ·rw [itoa_a (by omega) h0]
    have g2:IntKind.i64.wrap (48 - n) = 48 - n:=wrap_id (by omega) (by omega)
    have g3:IntKind.u8.wrap (48 - n) = 48 - n:=wrap8 (by omega) (by omega)
    repeat (with_reducible (first | apply nx | apply wQ rfl | ((first | apply wV | apply wW | apply wX | (apply wy cf0_ok;(focus kernel_rfl)));(focus (simp only [Tryz.f173,h0,g1,g2,g3,gt_iff_lt,go_sem];rfl))) | refine wz cf0_ok ?_ | (refine wa ?_;refine And.intro ?_ ?_;(focus kernel_rfl))))
    exact ⟨rfl,rfl,_,rfl,rfl⟩
   ·rw [itoa_b (by omega) (by omega)]
    have e1:=tdv_neg (n:=n) (by omega)
    have e2:=tmd_neg (n:=n) (by omega)
    have hc:=ih (n.tdiv 10) (by rw [e1];omega) (by omega)
    have hl:=hl10 (n.tdiv 10) (by rw [e1];omega)
    have w1:IntKind.i64.wrap (n.tdiv 10) = n.tdiv 10:=wrap_id (by omega) (by omega)
    have g2:IntKind.i64.wrap (48 - n.tmod 10) = 48 - n.tmod 10:=wrap_id (by omega) (by omega)
    have g3:IntKind.u8.wrap (48 - n.tmod 10) = 48 - n.tmod 10:=wrap8 (by omega) (by omega)
    clear e1 e2
    have hltb:ltBL 0 [ii (n.tdiv 10)] = true:=rfl
    repeat (with_reducible (first | apply nx | apply wQ rfl | ((first | apply wV | apply wW | apply wX | (apply wy (cfAt_ok cf0_ok (ent Tryz.func173 rfl) hc hltb);(focus kernel_rfl)));(focus (simp only [Tryz.f173,cfAt,h0,g1,g2,g3,w1,hl,gt_iff_lt,go_sem];rfl))) | refine wz (cfAt_ok cf0_ok (ent Tryz.func173 rfl) hc hltb) ?_ | (refine wa ?_;refine And.intro ?_ ?_;(focus kernel_rfl))))
    exact ⟨rfl,rfl,_,rfl,rfl⟩
  ·have g1:(-10:Int) < n:=by omega
   by_cases g4:n < 10
   ·rw [itoa_c (by omega) (by omega)]
    have g2:IntKind.i64.wrap (48 + n) = 48 + n:=wrap_id (by omega) (by omega)
    have g3:IntKind.u8.wrap (48 + n) = 48 + n:=wrap8 (by omega) (by omega)
    repeat (with_reducible (first | apply nx | apply wQ rfl | ((first | apply wV | apply wW | apply wX | (apply wy cf0_ok;(focus kernel_rfl)));(focus (simp only [Tryz.f173,h0,g1,g2,g3,g4,gt_iff_lt,go_sem];rfl))) | refine wz cf0_ok ?_ | (refine wa ?_;refine And.intro ?_ ?_;(focus kernel_rfl))))
    exact ⟨rfl,rfl,_,rfl,rfl⟩
   ·rw [itoa_d (by omega) (by omega)]
    have e1:=tdv_pos (n:=n) (by omega)
    have e2:=tmd_pos (n:=n) (by omega)
    have hc:=ih (n.tdiv 10) (by rw [e1];omega) (by omega)
    have hl:=hl10 (n.tdiv 10) (by rw [e1];omega)
    have w1:IntKind.i64.wrap (n.tdiv 10) = n.tdiv 10:=wrap_id (by omega) (by omega)
    have g2:IntKind.i64.wrap (48 + n.tmod 10) = 48 + n.tmod 10:=wrap_id (by omega) (by omega)
    have g3:IntKind.u8.wrap (48 + n.tmod 10) = 48 + n.tmod 10:=wrap8 (by omega) (by omega)
    clear e1 e2
    have hltb:ltBL 0 [ii (n.tdiv 10)] = true:=rfl
    repeat (with_reducible (first | apply nx | apply wQ rfl | ((first | apply wV | apply wW | apply wX | (apply wy (cfAt_ok cf0_ok (ent Tryz.func173 rfl) hc hltb);(focus kernel_rfl)));(focus (simp only [Tryz.f173,cfAt,h0,g1,g2,g3,g4,w1,hl,gt_iff_lt,go_sem];rfl))) | refine wz (cfAt_ok cf0_ok (ent Tryz.func173 rfl) hc hltb) ?_ | (refine wa ?_;refine And.intro ?_ ?_;(focus kernel_rfl))))
    exact ⟨rfl,rfl,_,rfl,rfl⟩
def c173:List PV→List Box→Option (PRes × List Box)
 | [.int .i64 n],sg=>if n.natAbs < 1000000 then some (.ret (.str (itoaF n)),sg) else none
 | _,_=>none
theorem c173_ok:ConOk Tryz.prog 173 c173:=ConOk.of0 (ent Tryz.func173 rfl) fun args sg r sg' h=>by
 unfold c173 at h
 split at h <;> try (cases h;done)
 split at h <;> cases h
 rename_i hc
 exact ⟨_,rfl,rfl,rfl,Decimal_173 5 _ hc (Nat.le_refl _)⟩
def cfNa:CallF:=cfAdd cf0 173 c173
theorem cfNa_ok:CallFOk Tryz.prog cfNa:=cfAdd_ok cf0_ok c173_ok
theorem Row_120 (w:List UInt8) (z:Z) (ns:List Int) (hz:z = .n→ns = []) (hn:ns.length ≤ 100000) (hw:w.length ≤ 100000) (hb:∀ n ∈ ns,n.natAbs < 1000000):CallOk Tryz.prog 120 [.str w,.sl z (ns.map ii)] [] (.ret (.str (rowF w ns))) []:=by
 refine CallOk.of0 hTT Tryz.func120 rfl rfl ?_
 repeat (with_reducible (first | apply nx | apply wQ rfl | ((first | apply wV | apply wW | apply wX | (apply wy cfNa_ok;(focus kernel_rfl)));(focus (simp only [Tryz.f120,go_sem];rfl))) | refine wz cfNa_ok ?_ | (refine wa ?_;refine And.intro ?_ ?_;(focus kernel_rfl))))
 refine RunQ.keep [5,4,0,1] (by simp only [go_sem];rfl) ?_
 refine RunQ.loop (fun i s'=>∃ a:List UInt8,rowF w ns = rowF a (ns.drop i)∧a.length ≤ w.length + 8 * i∧s' = ⟨[(5,ii i),(4,.str []),(0,.str a),(1,.sl z (ns.map ii))],21,[]⟩) ns.length ⟨w,rfl,Nat.le_add_right _ _,rfl⟩ ?_
 rintro i _ hi ⟨a,hm,hal,rfl⟩
 by_cases hlt:i < ns.length
 ·obtain ⟨x,hx⟩:∃ x,ns[i]? = some x:=⟨_,List.getElem?_eq_getElem hlt⟩
  have hx':(ns.map ii)[i]? = some (ii x):=map_get hx
  have hlt':(i:Int) < ns.length:=by omega
  have hz':z ≠ .n:=fun e=>by rw [hz e] at hlt;simp at hlt
  have e4:IntKind.i64.wrap ((i:Int) + 1) = ((i + 1:Nat):Int):=wrap_id (by omega) (by omega)
  have hbx:=hb x (List.mem_of_getElem? hx)
  have hlx:=itoa_len 5 x hbx (Nat.le_refl _)
  have l1:a.length + 1 ≤ maxLen:=by unfold maxLen;omega
  have l2:a.length + 1 + (itoaF x).length ≤ maxLen:=by unfold maxLen;omega
  rw [drop_get hx] at hm
  have hm:rowF w ns = rowF (a ++ 32 :: itoaF x) (ns.drop (i + 1)):=hm
  repeat (with_reducible (first | apply nx | apply wQ rfl | ((first | apply wV | apply wW | apply wX | (apply wy cfNa_ok;(focus kernel_rfl)));(focus (simp only [Tryz.f120,cfNa,c173,hx',hlt',hz',e4,hbx,l1,l2,go_sem];rfl))) | refine wz cfNa_ok ?_ | (refine wa ?_;refine And.intro ?_ ?_;(focus kernel_rfl))))
  refine roundQ.t 0 [5,4,0,1] hlt (by simp only [ltB_is,go_sem]) ⟨_,hm,by simp only [List.length_append,List.length_cons];omega,by simp only [go_sem]⟩
 ·have hlt':¬ (i:Int) < ns.length:=by omega
  rw [List.drop_eq_nil_of_le (by omega)] at hm
  have hm:rowF w ns = a:=hm
  rw [hm]
  repeat (with_reducible (first | apply nx | apply wQ rfl | ((first | apply wV | apply wW | apply wX | (apply wy cfNa_ok;(focus kernel_rfl)));(focus (simp only [Tryz.f120,hlt',go_sem];rfl))) | refine wz cfNa_ok ?_ | (refine wa ?_;refine And.intro ?_ ?_;(focus kernel_rfl))))
  exact ⟨rfl,rfl,_,rfl,rfl⟩
def c120:List PV→List Box→Option (PRes × List Box)
 | [.str w,v],sg=>match decIs1 v with
  | some ns=>if ns.length ≤ 100000∧w.length ≤ 100000∧(ns.all fun n=>decide (n.natAbs < 1000000)) = true then some (.ret (.str (rowF w ns)),sg) else none
  | none=>none
 | _,_=>none
theorem c120_ok:ConOk Tryz.prog 120 c120:=ConOk.of0 (ent Tryz.func120 rfl) fun args sg r sg' h=>by
 unfold c120 at h
 split at h <;> try (cases h;done)
 split at h <;> try (cases h;done)
 rename_i h1
 split at h <;> cases h
 rename_i hc
 obtain ⟨z,rfl,hz⟩:=decIs1_inv h1
 exact ⟨_,rfl,rfl,by rw [ltBL_cons,ltBL_cons,ltB_isl];rfl,Row_120 _ _ _ hz hc.1 hc.2.1 (fun n hn=>by simpa using List.all_eq_true.1 hc.2.2 n hn)⟩
end Go.Pv
namespace Go.Pv
open Go Go.RowKit Go.Proofs
set_option maxRecDepth 200000
set_option maxHeartbeats 8000000
theorem closedL_strs (R:List (List UInt8)):closedL (R.map PV.str) = true:=closedL_map (fun _=>rfl) R
theorem ltB_strs (m:Nat) (R:List (List UInt8)):ltBL m (R.map PV.str) = true:=ltBL_of_closed m _ (closedL_strs R)
def decSs:List PV→Option (List (List UInt8)):=decL decS
theorem Sealed_121 (z:Z) (R:List (List UInt8)) (hz:z = .n→R = []) (hn:R.length ≤ 1000) (hl:∀ r ∈ R,r.length ≤ 3000):CallOk Tryz.prog 121 [.sl z (R.map PV.str),ii 223] [] (.ret (.str (sealF R))) []:=by
 refine CallOk.of0 hTT Tryz.func121 rfl rfl ?_
 repeat (with_reducible (first | apply nx | apply wQ rfl | ((first | apply wV | apply wW | apply wX | (apply wy cfNa_ok;(focus kernel_rfl)));(focus (simp only [Tryz.f121,go_sem];rfl))) | refine wz cfNa_ok ?_ | (refine wa ?_;refine And.intro ?_ ?_;(focus kernel_rfl))))
 refine RunQ.keep [7,6,5,4,0,1] (by simp only [go_sem];rfl) ?_
 refine RunQ.loop (fun i s'=>∃ (c:Nat) (o:List UInt8),sumS 0 R = c + sumS i (R.drop i)∧linesF R = o ++ linesF (R.drop i)∧o.length ≤ 3001 * i∧c ≤ 2295000000000 * i∧s' = ⟨[(7,ii i),(6,ii c),(5,.str o),(4,.str []),(0,.sl z (R.map PV.str)),(1,ii 223)],65,[]⟩) R.length ⟨0,[],(Nat.zero_add _).symm,rfl,Nat.zero_le _,Nat.zero_le _,rfl⟩ ?_
 rintro i _ hi ⟨c,o,hc,ho,hol,hcl,rfl⟩
 by_cases hlt:i < R.length
 ·obtain ⟨r,hr⟩:∃ r,R[i]? = some r:=⟨_,List.getElem?_eq_getElem hlt⟩
  have hr':(R.map PV.str)[i]? = some (.str r):=by rw [List.getElem?_map,hr];rfl
  have hlt':(i:Int) < R.length:=by omega
  have hz':z ≠ .n:=fun e=>by rw [hz e] at hlt;simp at hlt
  have e4:IntKind.i64.wrap ((i:Int) + 1) = ((i + 1:Nat):Int):=wrap_id (by omega) (by omega)
  have hrl:=hl r (List.mem_of_getElem? hr)
  have l1:o.length + r.length ≤ maxLen:=by unfold maxLen;omega
  have l2:o.length + r.length + 1 ≤ maxLen:=by unfold maxLen;omega
  rw [drop_get hr] at hc ho
  have hc:sumS 0 R = c + (sumR (i + 1) 0 r + sumS (i + 1) (R.drop (i + 1))):=hc
  have ho:linesF R = o ++ (r ++ [10] ++ linesF (R.drop (i + 1))):=ho
  repeat (with_reducible (first | ((fail_if_success (refine RunQ.seq (x:=.region 6 _ _) ?_));(apply nx)) | apply wQ rfl | ((first | apply wV | apply wW | apply wX | (apply wy cfNa_ok;(focus kernel_rfl)));(focus (simp only [Tryz.f121,hlt',hr',hz',go_sem];rfl))) | ((fail_if_success (show RunQ _ (.region 6 _ _) _ _));(refine wz cfNa_ok ?_)) | (refine wa ?_;refine And.intro ?_ ?_;(focus kernel_rfl))))
  refine RunQ.keep [8,7,6,5,4,0,1] (by simp only [go_sem];rfl) ?_
  refine RunQ.loop (fun k s'=>∃ d:Nat,d + sumR (i + 1) k (r.drop k) = c + sumR (i + 1) 0 r∧d ≤ c + 765000000 * k∧s' = ⟨[(8,ii k),(7,ii i),(6,ii d),(5,.str o),(4,.str []),(0,.sl z (R.map PV.str)),(1,ii 223)],65,[]⟩) r.length ⟨c,rfl,Nat.le_add_right _ _,rfl⟩ ?_
  rintro k _ hk ⟨d,hd,hdl,rfl⟩
  by_cases hkl:k < r.length
  ·obtain ⟨x,hx⟩:∃ x,r[k]? = some x:=⟨_,List.getElem?_eq_getElem hkl⟩
   have hkl':(k:Int) < r.length:=by omega
   have hx255:x.toNat < 256:=x.toNat_lt
   have e5:IntKind.i64.wrap ((k:Int) + 1) = ((k + 1:Nat):Int):=wrap_id (by omega) (by omega)
   have e6:IntKind.i64.wrap ((x.toNat:Nat):Int) = ((x.toNat:Nat):Int):=wrap_id (by omega) (by omega)
   have b1:x.toNat * (k + 1) ≤ 255 * 3000:=Nat.mul_le_mul (by omega) (by omega)
   have b2:x.toNat * (k + 1) * (i + 1) ≤ 255 * 3000 * 1000:=Nat.mul_le_mul b1 (by omega)
   have m1:((x.toNat:Nat):Int) * ((k + 1:Nat):Int) = ((x.toNat * (k + 1):Nat):Int):=by rw [Int.natCast_mul]
   have m2:((x.toNat * (k + 1):Nat):Int) * ((i + 1:Nat):Int) = ((x.toNat * (k + 1) * (i + 1):Nat):Int):=by rw [Int.natCast_mul (x.toNat * (k + 1))]
   have hs:sumR (i + 1) k (r.drop k) = x.toNat * (k + 1) * (i + 1) + sumR (i + 1) (k + 1) (r.drop (k + 1)):=by rw [drop_get hx];rfl
   rw [hs] at hd
   generalize x.toNat * (k + 1) * (i + 1) = p2 at b2 m2 hd
   generalize x.toNat * (k + 1) = p1 at b1 m1 m2
   have e7:IntKind.i64.wrap (((x.toNat:Nat):Int) * ((k + 1:Nat):Int)) = (p1:Nat):=by rw [m1];exact wrap_id (by omega) (by omega)
   have e8:IntKind.i64.wrap ((p1:Int) * ((i + 1:Nat):Int)) = (p2:Nat):=by rw [m2];exact wrap_id (by omega) (by omega)
   have e9:IntKind.i64.wrap ((d:Int) + (p2:Int)) = ((d + p2:Nat):Int):=wrap_id (by omega) (by omega)
   repeat (with_reducible (first | apply nx | apply wQ rfl | ((first | apply wV | apply wW | apply wX | (apply wy cfNa_ok;(focus kernel_rfl)));(focus (simp only [Tryz.f121,hr',hz',hkl',hx,e4,e5,e6,e7,e8,e9,go_sem];rfl))) | refine wz cfNa_ok ?_ | (refine wa ?_;refine And.intro ?_ ?_;(focus kernel_rfl))))
   refine roundQ.t 0 [8,7,6,5,4,0,1] hkl (by simp only [ltB_strs,go_sem]) ⟨d + p2,by omega,by omega,by simp only [go_sem]⟩
  ·have hkl':¬ (k:Int) < r.length:=by omega
   rw [List.drop_eq_nil_of_le (by omega)] at hd
   have hd:d = c + sumR (i + 1) 0 r:=hd
   repeat (with_reducible (first | apply nx | apply wQ rfl | ((first | apply wV | apply wW | apply wX | (apply wy cfNa_ok;(focus kernel_rfl)));(focus (simp only [Tryz.f121,hr',hz',hkl',e4,l1,l2,go_sem];rfl))) | refine wz cfNa_ok ?_ | (refine wa ?_;refine And.intro ?_ ?_;(focus kernel_rfl))))
   refine roundQ.t 0 [7,6,5,4,0,1] hlt (by simp only [ltB_strs,go_sem]) ⟨d,o ++ (r ++ [10]),by omega,by rw [ho];simp only [List.append_assoc],by simp only [List.length_append,List.length_cons,List.length_nil];omega,by omega,by simp only [go_sem]⟩
 ·have hlt':¬ (i:Int) < R.length:=by omega
  obtain rfl:i = R.length:=by omega
  rw [List.drop_length] at hc ho
  have hc:sumS 0 R = c:=hc
  have ho:linesF R = o:=by rw [ho];exact List.append_nil _
  unfold sealF
  rw [hc,ho]
  have hd:c % 223 < 223:=Nat.mod_lt _ (by decide)
  have t1:((c:Nat):Int).tmod 223 = ((c % 223:Nat):Int):=by rw [Int.tmod_eq_emod_of_nonneg (by omega)];omega
  generalize c % 223 = d at hd t1
  have t2:IntKind.i64.wrap (((d:Nat):Int).tdiv 100) = ((d / 100:Nat):Int):=by rw [Int.tdiv_eq_ediv_of_nonneg (by omega)];exact (wrap_id (by omega) (by omega)).trans (by omega)
  have t3:IntKind.i64.wrap (((d:Nat):Int).tdiv 10) = ((d / 10:Nat):Int):=by rw [Int.tdiv_eq_ediv_of_nonneg (by omega)];exact (wrap_id (by omega) (by omega)).trans (by omega)
  have t4:((d / 10:Nat):Int).tmod 10 = ((d / 10 % 10:Nat):Int):=by rw [Int.tmod_eq_emod_of_nonneg (by omega)];omega
  have t5:((d:Nat):Int).tmod 10 = ((d % 10:Nat):Int):=by rw [Int.tmod_eq_emod_of_nonneg (by omega)];omega
  have n1:(((d / 100:Nat):Int)).natAbs < 1000000:=by omega
  have n2:(((d / 10 % 10:Nat):Int)).natAbs < 1000000:=by omega
  have n3:(((d % 10:Nat):Int)).natAbs < 1000000:=by omega
  have h223:¬ (223:Int) = 0:=by decide
  have h100:¬ (100:Int) = 0:=by decide
  have h10:¬ (10:Int) = 0:=by decide
  have q1:=itoa_len 5 _ n1 (Nat.le_refl _)
  have q2:=itoa_len 5 _ n2 (Nat.le_refl _)
  have q3:=itoa_len 5 _ n3 (Nat.le_refl _)
  unfold digF
  generalize ((d / 100:Nat):Int) = A at *
  generalize ((d / 10 % 10:Nat):Int) = B at *
  generalize ((d % 10:Nat):Int) = C at *
  have l1:o.length + 4 ≤ maxLen:=by unfold maxLen;omega
  have l2:o.length + 4 + (itoaF A).length ≤ maxLen:=by unfold maxLen;omega
  have l3:o.length + ((itoaF A).length + 1 + 1 + 1 + 1) + (itoaF B).length ≤ maxLen:=by unfold maxLen;omega
  have l4:o.length + ((itoaF A).length + (itoaF B).length + 1 + 1 + 1 + 1) + (itoaF C).length ≤ maxLen:=by unfold maxLen;omega
  have l5:o.length + ((itoaF A).length + ((itoaF B).length + (itoaF C).length) + 1 + 1 + 1 + 1) + 1 ≤ maxLen:=by unfold maxLen;omega
  repeat (with_reducible (first | apply nx | apply wQ rfl | ((first | apply wV | apply wW | apply wX | (apply wy cfNa_ok;(focus kernel_rfl)));(focus (simp only [Tryz.f121,cfNa,c173,hlt',t1,t2,t3,t4,t5,n1,n2,n3,h223,h100,h10,l1,l2,l3,l4,l5,go_sem];rfl))) | refine wz cfNa_ok ?_ | (refine wa ?_;refine And.intro ?_ ?_;(focus kernel_rfl))))
  refine ⟨rfl,rfl,_,rfl,?_⟩
  simp only [List.append_assoc]
  rfl
def c121:List PV→List Box→Option (PRes × List Box)
 | [.sl z es,.int .i64 n],sg=>match decL decS es with
  | some R=>if (z = .n→R = [])∧n = 223∧R.length ≤ 1000∧(R.all fun r=>decide (r.length ≤ 3000)) = true then some (.ret (.str (sealF R)),sg) else none
  | none=>none
 | _,_=>none
theorem c121_ok:ConOk Tryz.prog 121 c121:=ConOk.of0 (ent Tryz.func121 rfl) fun args sg r sg' h=>by
 unfold c121 at h
 split at h <;> try (cases h;done)
 split at h <;> try (cases h;done)
 rename_i h1
 split at h <;> cases h
 rename_i hc
 obtain rfl:=decL_inv decS_inv h1
 obtain ⟨h2,rfl,h3,h4⟩:=hc
 exact ⟨_,rfl,rfl,by rw [ltBL_cons,ltB_sl,ltB_strs];rfl,Sealed_121 _ _ h2 h3 (fun r hr=>by simpa using List.all_eq_true.1 h4 r hr)⟩
theorem decSs_map (R:List (List UInt8)):decL decS (R.map PV.str) = some R:=decL_map (g:=PV.str) (fun _=>rfl) R
end Go.Pv
namespace Go.Pv
open Go Go.RowKit
theorem ltBL_app (m:Nat):∀ a b:List PV,ltBL m (a ++ b) = (ltBL m a && ltBL m b)
 | [],b=>by simp [ltBL]
 | x :: a,b=>by simp only [List.cons_append,ltBL,ltBL_app m a b,Bool.and_assoc]
end Go.Pv
