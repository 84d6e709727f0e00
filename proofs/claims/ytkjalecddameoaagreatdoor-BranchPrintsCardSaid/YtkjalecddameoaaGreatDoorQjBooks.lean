/- Contracts: stories alike, the reference's; as far as they are alike. -/
import Derived.Test.YtkjalecddameoaaGreatDoorQlBook
import Derived.Test.YtkjalecddameoaaGreatDoorQlRead
import Derived.Test.YtkjalecddameoaaGreatDoorQiTab
set_option linter.all false
namespace Go.Pv
open Go Go.RowKit Go.Proofs
set_option maxRecDepth 200000
set_option maxHeartbeats 8000000
def cfK1:CallF:=cfAdd cf0 29 c29s
theorem cfK1_ok:CallFOk Tryz.prog cfK1:=cfAdd_ok cf0_ok c29s_ok
theorem SameStories_60 (s t:Sty) (hs:s.ok = true) (ht:t.ok = true) (he:t.e = s.e) (hsc:t.sc = s.sc) (hrl:t.rl = s.rl) (hl:s.sc.length ≤ 100000) (hl2:s.rz.length ≤ 100000) (hto:∀ r ∈ s.rl,r.to.length ≤ maxLen):CallOk Tryz.prog 60 [.agg s.cells,.agg t.cells] [] (.ret (.bool true)) []:=by
 refine CallOk.of0 hTT Tryz.func60 rfl rfl ?_
 have hzs:=Sty.ok_s hs
 have hzr:=Sty.ok_r hs
 have hys:=Sty.ok_s ht
 have hyr:=Sty.ok_r ht
 have hrl1:t.rz.length = s.rz.length:=by rw [← Sty.rl_len,← Sty.rl_len,hrl]
 have hb1:((s.sc.length:Int) != (s.sc.length:Int)) = false:=by simp
 have hb2:((s.rz.length:Int) != (s.rz.length:Int)) = false:=by simp
 have hb3:(s.e != s.e) = false:=by simp
 have h1:=closedL_sns s.sc
 have h2:=closedL_rzs s.rz
 have h3:=closedL_rzs t.rz
 obtain ⟨te,tzs,tsc,tzr,trz⟩:=t
 have he:te = s.e:=he
 have hsc:tsc = s.sc:=hsc
 have hrl1:trz.length = s.rz.length:=hrl1
 subst he;subst hsc
 repeat (with_reducible (first | apply nx | apply wQ rfl | ((first | apply wV | apply wW | apply wX | (apply wy cf0_ok;(focus kernel_rfl)));(focus (simp only [Tryz.f60,hb1,hb2,hb3,hrl1,List.length_map,go_sem];rfl))) | refine wz cf0_ok ?_ | (refine wa ?_;refine And.intro ?_ ?_;(focus kernel_rfl))))
 refine RunQ.keep [5,3,2] (by simp only [go_sem];rfl) ?_
 generalize hT1:({ e:=s.e,zs:=tzs,sc:=s.sc,zr:=tzr,rz:=trz }:Sty).cells = TC
 have hT2:TC = [ii s.e,.sl tzs (s.sc.map encSn),.sl tzr (trz.map encRz)]:=hT1.symm
 subst hT2
 refine RunQ.loop (fun i s'=>s' = ⟨[(5,ii (i:Nat)),(3,.bp 1 0),(2,.bp 0 0)],84,[.var s.cells false,.var [ii s.e,.sl tzs (s.sc.map encSn),.sl tzr (trz.map encRz)] false]⟩) s.sc.length rfl ?_
 rintro i _ hi rfl
 by_cases hlt:i < s.sc.length
 ·obtain ⟨x,hx⟩:∃ x,s.sc[i]? = some x:=⟨_,List.getElem?_eq_getElem hlt⟩
  have hx':(s.sc.map encSn)[i]? = some (.agg [ii x.part,ii x.least,ii x.most,.bool x.loose,.bool x.formula]):=map_get hx
  have hlt':(i:Int) < s.sc.length:=by omega
  have hz1:s.zs ≠ .n:=fun e=>by have:=zOk_map hzs e;rw [this] at hlt;simp at hlt
  have hz2:tzs ≠ .n:=fun e=>by have:=zOk_map hys e;rw [this] at hlt;simp at hlt
  have e4:IntKind.i64.wrap ((i:Int) + 1) = ((i + 1:Nat):Int):=wrap_id (by omega) (by omega)
  obtain ⟨a,b,c,lo,fo⟩:=x
  have n1:(a != a) = false:=by simp
  have n2:(b != b) = false:=by simp
  have n3:(c != c) = false:=by simp
  have n4:(a == a) = true:=by simp
  have n5:(b == b) = true:=by simp
  have n6:(c == c) = true:=by simp
  cases lo <;> cases fo
  all_goals
   repeat (with_reducible (first | apply nx | apply wQ rfl | ((first | apply wV | apply wW | apply wX | (apply wy cf0_ok;(focus kernel_rfl)));(focus (simp only [Tryz.f60,hx',hlt',hz1,hz2,e4,n4,n5,n6,beq_self_eq_true,Bool.and_self,List.length_map,go_sem];rfl))) | refine wz cf0_ok ?_ | (refine wa ?_;refine And.intro ?_ ?_;(focus kernel_rfl))))
   refine roundQ.t 2 [5,3,2] hlt (by simp only [ltB_sns,ltB_rzs,go_sem]) (by simp only [go_sem])
 have hlt':¬ (i:Int) < s.sc.length:=by omega
 repeat (with_reducible (first | apply nx | apply wQ rfl | ((first | apply wV | apply wW | apply wX | (apply wy cf0_ok;(focus kernel_rfl)));(focus (simp only [Tryz.f60,hlt',List.length_map,go_sem];rfl))) | refine wz cf0_ok ?_ | (refine wa ?_;refine And.intro ?_ ?_;(focus kernel_rfl))))
 refine RunQ.keep [6,3,2] (by simp only [go_sem];rfl) ?_
 refine RunQ.loop (fun i s'=>s' = ⟨[(6,ii (i:Nat)),(3,.bp 1 0),(2,.bp 0 0)],84,[.var s.cells false,.var [ii s.e,.sl tzs (s.sc.map encSn),.sl tzr (trz.map encRz)] false]⟩) s.rz.length rfl ?_
 rintro j _ hj rfl
 by_cases hjl:j < s.rz.length
 ·obtain ⟨p,hp⟩:∃ p,s.rz[j]? = some p:=⟨_,List.getElem?_eq_getElem hjl⟩
  obtain ⟨q,hq⟩:∃ q,trz[j]? = some q:=⟨_,List.getElem?_eq_getElem (by omega)⟩
  have hp':(s.rz.map encRz)[j]? = some (.agg [ii p.2.frm,.sl p.1 (p.2.to.map ii)]):=map_get hp
  have hq':(trz.map encRz)[j]? = some (.agg [ii q.2.frm,.sl q.1 (q.2.to.map ii)]):=map_get hq
  have hpq:q.2 = p.2:=by
   have a1:=Sty.rl_get hp
   have a2:(trz.map (·.2))[j]? = some q.2:=map_get hq
   have hrl:trz.map (·.2) = s.rl:=hrl
   rw [hrl,a1] at a2
   exact (Option.some.inj a2).symm
  rw [hpq] at hq'
  have hjl':(j:Int) < s.rz.length:=by omega
  have hz1:s.zr ≠ .n:=fun e=>by have:=zOk_map hzr e;rw [this] at hjl;simp at hjl
  have hz2:tzr ≠ .n:=fun e=>by have:=zOk_map hyr e;rw [this] at hrl1;simp at hrl1;omega
  have e4:IntKind.i64.wrap ((j:Int) + 1) = ((j + 1:Nat):Int):=wrap_id (by omega) (by omega)
  have n1:(p.2.frm != p.2.frm) = false:=by simp
  have d1:decIs1 (.sl p.1 (p.2.to.map ii)) = some p.2.to:=decIs1_enc (rzB_at (Sty.ok_z hs) (List.mem_of_getElem? hp))
  have d2:decIs1 (.sl q.1 (p.2.to.map ii)) = some p.2.to:=by rw [← hpq];exact decIs1_enc (rzB_at (Sty.ok_z ht) (List.mem_of_getElem? hq))
  have d3:=closedL_is p.2.to
  have d4:p.2.to.length ≤ maxLen:=hto p.2 (List.mem_of_getElem? (Sty.rl_get hp))
  have d5:decide (p.2.to = p.2.to) = true:=decide_eq_true rfl
  repeat (with_reducible (first | apply nx | apply wQ rfl | ((first | apply wV | apply wW | apply wX | (apply wy cfK1_ok;(focus kernel_rfl)));(focus (simp only [Tryz.f60,cfK1,c29s,hp',hq',hjl',hz1,hz2,e4,n1,d1,d2,d3,d4,d5,bne_self_eq_false,hrl1,List.length_map,go_sem];rfl))) | refine wz cfK1_ok ?_ | (refine wa ?_;refine And.intro ?_ ?_;(focus kernel_rfl))))
  refine roundQ.t 2 [6,3,2] hjl (by simp only [ltB_sns,ltB_rzs,go_sem]) (by simp only [go_sem])
 have hjl':¬ (j:Int) < s.rz.length:=by omega
 repeat (with_reducible (first | apply nx | apply wQ rfl | ((first | apply wV | apply wW | apply wX | (apply wy cf0_ok;(focus kernel_rfl)));(focus (simp only [Tryz.f60,hjl',List.length_map,go_sem];rfl))) | refine wz cf0_ok ?_ | (refine wa ?_;refine And.intro ?_ ?_;(focus kernel_rfl))))
 exact ⟨rfl,rfl,_,rfl,rfl⟩
end Go.Pv
namespace Go.Pv
open Go Go.RowKit Go.Proofs
set_option maxRecDepth 200000
set_option maxHeartbeats 8000000
def snEq (a b:Sn):Bool:=a.part == b.part && a.least == b.least && a.most == b.most && a.loose == b.loose && a.formula == b.formula
theorem snEq_iff {a b:Sn}:snEq a b = true↔a = b:=by
 obtain ⟨a1,a2,a3,a4,a5⟩:=a
 obtain ⟨b1,b2,b3,b4,b5⟩:=b
 unfold snEq
 simp only [Bool.and_eq_true,beq_iff_eq,Sn.mk.injEq]
 constructor
 ·rintro ⟨⟨⟨⟨h1,h2⟩,h3⟩,h4⟩,h5⟩;exact ⟨h1,h2,h3,h4,h5⟩
 ·rintro ⟨h1,h2,h3,h4,h5⟩;exact ⟨⟨⟨⟨h1,h2⟩,h3⟩,h4⟩,h5⟩
def rlEq (a b:Rl):Bool:=a.frm == b.frm && a.to == b.to
theorem rlEq_iff {a b:Rl}:rlEq a b = true↔a = b:=by
 obtain ⟨a1,a2⟩:=a
 obtain ⟨b1,b2⟩:=b
 unfold rlEq
 simp only [Bool.and_eq_true,beq_iff_eq,Rl.mk.injEq]
def allEq {α:Type} (f:α→α→Bool):List α→List α→Bool
 | [],[]=>true
 | a :: l,b :: m=>f a b && allEq f l m
 | _,_=>false
theorem allEq_iff {α:Type} {f:α→α→Bool} (hf:∀ {a b},f a b = true↔a = b):∀ {l m:List α},allEq f l m = true↔l = m
 | [],[]=>by simp [allEq]
 | [],_ :: _=>by simp [allEq]
 | _ :: _,[]=>by simp [allEq]
 | a :: l,b :: m=>by simp only [allEq,Bool.and_eq_true,hf,allEq_iff hf,List.cons.injEq]
def alikeB (s t:Sty):Bool:=t.e == s.e && allEq snEq t.sc s.sc && allEq rlEq t.rl s.rl && decide (s.sc.length ≤ 100000) && decide (s.rz.length ≤ 100000) && s.rl.all fun r=>decide (r.to.length ≤ maxLen)
theorem alike_iff {s t:Sty}:alikeB s t = true↔t.e = s.e∧t.sc = s.sc∧t.rl = s.rl∧s.sc.length ≤ 100000∧s.rz.length ≤ 100000∧∀ r ∈ s.rl,r.to.length ≤ maxLen:=by
 unfold alikeB
 simp only [Bool.and_eq_true,beq_iff_eq,allEq_iff snEq_iff,allEq_iff rlEq_iff,decide_eq_true_eq,List.all_eq_true]
 constructor
 ·rintro ⟨⟨⟨⟨⟨h1,h2⟩,h3⟩,h4⟩,h5⟩,h6⟩;exact ⟨h1,h2,h3,h4,h5,h6⟩
 ·rintro ⟨h1,h2,h3,h4,h5,h6⟩;exact ⟨⟨⟨⟨⟨h1,h2⟩,h3⟩,h4⟩,h5⟩,h6⟩
def c60:List PV→List Box→Option (PRes × List Box)
 | [v,w],sg=>match decSt v,decSt w with
  | some s,some t=>if alikeB s t = true then some (.ret (.bool true),sg) else none
  | _,_=>none
 | _,_=>none
theorem c60_ok:ConOk Tryz.prog 60 c60:=ConOk.of0 (ent Tryz.func60 rfl) fun args sg r sg' h=>by
 unfold c60 at h
 split at h <;> try (cases h;done)
 split at h <;> try (cases h;done)
 rename_i s t h1 h2
 split at h <;> cases h
 rename_i hc
 obtain ⟨rfl,hs⟩:=decSt_inv h1
 obtain ⟨rfl,ht⟩:=decSt_inv h2
 obtain ⟨a1,a2,a3,a4,a5,a6⟩:=alike_iff.1 hc
 exact ⟨_,rfl,rfl,by rw [ltBL_cons,ltBL_cons,ltB_st,ltB_st];rfl,SameStories_60 s t hs ht a1 a2 a3 a4 a5 a6⟩
theorem maxLen_le {n:Nat} (h:n ≤ 100000):n ≤ maxLen:=by unfold maxLen;omega
theorem alike_big {s t:Sty} (hB:BigB s.e s.sc s.rl) (h1:t.e = s.e) (h2:t.sc = s.sc) (h3:t.rl = s.rl):alikeB s t = true:=by
 have hl:=hB.ls
 have hrl:s.rz.length = s.rl.length:=s.rl_len.symm
 exact alike_iff.2 ⟨h1,h2,h3,by omega,by omega,fun r hr=>maxLen_le (by have:=hB.lt r hr;omega)⟩
def zeroS:Sty:=⟨0,.n,[],.n,[]⟩
theorem dec_zero:decSt (.agg [PV.int .i64 0,.sl .n [],.sl .n []]) = some zeroS:=rfl
theorem alike_zero:alikeB zeroS zeroS = true:=rfl
def cfR5:CallF:=cfAdd (cfAdd (cfAdd (cfAdd (cfAdd (cfAdd (cfAdd (cfAdd cf0 19 c19) 21 c21) 20 c20) 57 c57) 58 c58) 59 c59) 60 c60) 61 c61
theorem cfR5_ok (hk:ConOk Tryz.prog 21 c21):CallFOk Tryz.prog cfR5:=cfAdd_ok (cfAdd_ok (cfAdd_ok (cfAdd_ok (cfAdd_ok (cfAdd_ok (cfAdd_ok (cfAdd_ok cf0_ok c19_ok) hk) c20_ok) c57_ok) c58_ok) c59_ok) c60_ok) c61_ok
theorem itoa_len1 (n:Int) (h:0 ≤ n∧n < 10):(itoaF n).length ≤ 1:=by
 have key:∀ k:Fin 10,(itoaF (k.val:Int)).length ≤ 1:=by decide +kernel
 have:=key ⟨n.toNat,by omega⟩
 have e:((n.toNat:Nat):Int) = n:=by omega
 rw [show ((⟨n.toNat,by omega⟩:Fin 10).val:Int) = n from e] at this
 exact this
theorem itoa_len2 (n:Int) (h:0 ≤ n∧n < 100):(itoaF n).length ≤ 2:=by
 have key:∀ k:Fin 100,(itoaF (k.val:Int)).length ≤ 2:=by decide +kernel
 have:=key ⟨n.toNat,by omega⟩
 have e:((n.toNat:Nat):Int) = n:=by omega
 rw [show ((⟨n.toNat,by omega⟩:Fin 100).val:Int) = n from e] at this
 exact this
theorem row_lenK (k:Nat) (ns:List Int) (hb:∀ n ∈ ns,(itoaF n).length ≤ k) (w:List UInt8):(rowF w ns).length ≤ w.length + (k + 1) * ns.length:=by
 induction ns generalizing w with
 | nil=>exact Nat.le_refl _
 | cons n ns ih =>
  have h1:=ih (fun m hm=>hb m (List.mem_cons_of_mem _ hm)) (w ++ 32 :: itoaF n)
  have h2:=hb n List.mem_cons_self
  show (rowF (w ++ 32 :: itoaF n) ns).length ≤ _
  rw [List.length_append,List.length_cons] at h1
  rw [List.length_cons,Nat.mul_succ]
  omega
theorem lines_app (a b:List (List UInt8)):linesF (a ++ b) = linesF a ++ linesF b:=by unfold linesF;rw [List.flatMap_append]
theorem text_len {e:Int} {sc:List Sn} {rl:List Rl} (h:PartsOk e sc rl):(textB e sc rl).length ≤ 400:=by
 have e1:=h.e1
 have e6:=h.e6
 have s8:=h.s8
 have r10:=h.r10
 have g0:(linesF [rowF stW [e]]).length ≤ 8:=by
  refine Nat.le_trans (lines_len 7 _ fun r hr=>?_) (Nat.le_refl _)
  rw [List.mem_singleton.1 hr]
  exact row_lenK 1 [e] (fun n hn=>by rw [List.mem_singleton.1 hn];exact itoa_len1 e (by omega)) stW
 have g1:(linesF (sc.map snR)).length ≤ 19 * 8:=by
  refine Nat.le_trans (lines_len 18 _ fun r hr=>?_) (Nat.mul_le_mul (Nat.le_refl _) (by rw [List.length_map];exact s8))
  obtain ⟨x,hx,rfl⟩:=List.mem_map.1 hr
  have hs:=h.sn x hx
  have h2:(snW x).length ≤ 6:=by unfold snW;split <;> decide
  have a1:=itoa_len1 x.part (by omega)
  have a2:=itoa_len3 x.least (by omega)
  have a3:=itoa_len3 x.most (by omega)
  have hr:rowF (snW x) (snNs x) = snW x ++ 32 :: itoaF x.part ++ 32 :: itoaF x.least ++ 32 :: itoaF x.most:=rfl
  unfold snR
  rw [hr]
  simp only [List.length_append,List.length_cons,List.length_nil]
  omega
 have g2:(linesF (rl.map rlR)).length ≤ 19 * 10:=by
  refine Nat.le_trans (lines_len 18 _ fun r hr=>?_) (Nat.mul_le_mul (Nat.le_refl _) (by rw [List.length_map];exact r10))
  obtain ⟨x,hx,rfl⟩:=List.mem_map.1 hr
  have hq:=h.rr x hx
  have h1:=row_lenK 2 x.to (fun n hn=>itoa_len2 n (by have:=hq.2.2.2.2 n hn;omega)) (ruW ++ 32 :: itoaF x.frm)
  have h2:=itoa_len1 x.frm (by omega)
  have h3:ruW.length = 4:=rfl
  show (rowF (ruW ++ 32 :: itoaF x.frm) x.to).length ≤ 18
  rw [List.length_append,List.length_cons] at h1
  omega
 have g3:=dig_len (sumS 0 (rowsB e sc rl) % 223) (Nat.mod_lt _ (by decide))
 unfold textB sealF
 generalize digF (sumS 0 (rowsB e sc rl) % 223) = D at g3
 have g4:linesF (rowsB e sc rl) = linesF [rowF stW [e]] ++ (linesF (sc.map snR) ++ linesF (rl.map rlR)):=by
  rw [← lines_app,← lines_app];rfl
 rw [g4]
 simp only [List.length_append,List.length_cons,List.length_nil]
 omega
theorem law_prints (hk:ConOk Tryz.prog 21 c21) (s:Sty) (hok:s.ok = true):CallOk Tryz.prog 13 [.agg s.cells] [] (.ret (.bool true)) []:=by
 refine CallOk.of0 hTT Tryz.func13 rfl rfl ?_
 have hd:=decSt_cells s hok
 have h1:=closedL_sns s.sc
 have h2:=closedL_rzs s.rz
 cases h0:shortB s
 ·repeat (with_reducible (first | apply nx | apply wQ rfl | ((first | apply wV | apply wW | apply wX | (apply wy (cfR5_ok hk);(focus kernel_rfl)));(focus (simp only [Tryz.f13,cfR5,c19,c21,hd,h0,h1,h2,go_sem];rfl))) | refine wz (cfR5_ok hk) ?_ | (refine wa ?_;refine And.intro ?_ ?_;(focus kernel_rfl))))
  exact ⟨rfl,rfl,_,rfl,rfl⟩
 cases hst:s.story
 ·have hP:printR s = .tuple [.str [],ii 2]:=by unfold printR;rw [hst];rfl
  repeat (with_reducible (first | apply nx | apply wQ rfl | ((first | apply wV | apply wW | apply wX | (apply wy (cfR5_ok hk);(focus kernel_rfl)));(focus (simp only [Tryz.f13,cfR5,c19,c20,c21,c57,hd,h0,hst,hP,h1,h2,beq_self_eq_true,go_sem];rfl))) | refine wz (cfR5_ok hk) ?_ | (refine wa ?_;refine And.intro ?_ ?_;(focus kernel_rfl))))
  exact ⟨rfl,rfl,_,rfl,rfl⟩
 have hp:=(Sty.story_ok hst).toPartsOk
 have hB:=big_of hp
 have hbb:=big_iff.2 hB
 have hT:=hB.toThrB
 have hL:=text_len hp
 have hP:printR s = .tuple [.str (textB s.e s.sc s.rl),ii 0]:=by unfold printR;rw [hst];rfl
 have hst2:(rdS s.e s.sc s.rl).story = true:=by unfold Sty.story;rw [rdS_rl];exact hst
 have hR:readP (textB s.e s.sc s.rl) = .tuple [.agg (rdS s.e s.sc s.rl).cells,ii 0]:=by
  unfold readP
  rw [if_neg (by omega),parsed_text hT]
  dsimp only
  rw [if_pos hst2]
  rfl
 have hd2:=decSt_cells (rdS s.e s.sc s.rl) (rdS_ok _ _ _)
 have hal:alikeB (rdS s.e s.sc s.rl) s = true:=alike_big (by rw [rdS_rl];exact hB) rfl rfl (rdS_rl _ _ _).symm
 have ht:(textB s.e s.sc s.rl).length ≤ 100000:=by omega
 generalize rdS s.e s.sc s.rl = s2 at hR hd2 hal
 have h3:=closedL_sns s2.sc
 have h4:=closedL_rzs s2.rz
 repeat (with_reducible (first | apply nx | apply wQ rfl | ((first | apply wV | apply wW | apply wX | (apply wy (cfR5_ok hk);(focus kernel_rfl)));(focus (simp only [Tryz.f13,cfR5,c19,c20,c21,c57,c58,c59,c60,hd,hd2,h0,hst,hP,hR,ht,hbb,hal,h1,h2,h3,h4,beq_self_eq_true,go_sem];rfl))) | refine wz (cfR5_ok hk) ?_ | (refine wa ?_;refine And.intro ?_ ?_;(focus kernel_rfl))))
 exact ⟨rfl,rfl,_,rfl,rfl⟩
theorem law_reads (hk:ConOk Tryz.prog 21 c21) (t:List UInt8):CallOk Tryz.prog 14 [.str t] [] (.ret (.bool true)) []:=by
 refine CallOk.of0 hTT Tryz.func14 rfl rfl ?_
 by_cases h3:(500:Int) < ((t.length:Nat):Int)
 ·repeat (with_reducible (first | apply nx | apply wQ rfl | ((first | apply wV | apply wW | apply wX | (apply wy (cfR5_ok hk);(focus kernel_rfl)));(focus (simp only [Tryz.f14,cfR5,c21,h3,gt_iff_lt,go_sem];rfl))) | refine wz (cfR5_ok hk) ?_ | (refine wa ?_;refine And.intro ?_ ?_;(focus kernel_rfl))))
  exact ⟨rfl,rfl,_,rfl,rfl⟩
 have ht:t.length ≤ 100000:=by omega
 have ht5:t.length ≤ 500:=by omega
 have hdz:=dec_zero
 have haz:=alike_zero
 have b30:((3:Int) != 0) = true:=rfl
 have b40:((4:Int) != 0) = true:=rfl
 by_cases h2:(400:Int) < ((t.length:Nat):Int)
 ·have hR:readP t = .tuple [.agg [ii 0,.sl .n [],.sl .n []],ii 3]:=by unfold readP;rw [if_pos (by omega)];rfl
  cases hr:readB t with
  | none =>
   have hV:readRV t = .tuple [.agg [ii 0,.sl .n [],.sl .n []],.bool false]:=by unfold readRV;rw [hr];rfl
   repeat (with_reducible (first | apply nx | apply wQ rfl | ((first | apply wV | apply wW | apply wX | (apply wy (cfR5_ok hk);(focus kernel_rfl)));(focus (simp only [Tryz.f14,cfR5,c21,c58,c60,c61,h3,h2,ht,ht5,hR,hV,hdz,haz,b30,b40,gt_iff_lt,beq_self_eq_true,go_sem];rfl))) | refine wz (cfR5_ok hk) ?_ | (refine wa ?_;refine And.intro ?_ ?_;(focus kernel_rfl))))
   exact ⟨rfl,rfl,_,rfl,rfl⟩
  | some f =>
   have hV:readRV t = .tuple [.agg (rdS f.1 f.2.1 f.2.2).cells,.bool true]:=by unfold readRV;rw [hr];rfl
   generalize rdS f.1 f.2.1 f.2.2 = s2 at hV
   repeat (with_reducible (first | apply nx | apply wQ rfl | ((first | apply wV | apply wW | apply wX | (apply wy (cfR5_ok hk);(focus kernel_rfl)));(focus (simp only [Tryz.f14,cfR5,c21,c58,c60,c61,h3,h2,ht,ht5,hR,hV,hdz,haz,b30,b40,gt_iff_lt,beq_self_eq_true,go_sem];rfl))) | refine wz (cfR5_ok hk) ?_ | (refine wa ?_;refine And.intro ?_ ?_;(focus kernel_rfl))))
   exact ⟨rfl,rfl,_,rfl,rfl⟩
 cases hr:readB t with
 | none =>
  have hV:readRV t = .tuple [.agg [ii 0,.sl .n [],.sl .n []],.bool false]:=by unfold readRV;rw [hr];rfl
  have hR:readP t = .tuple [.agg [ii 0,.sl .n [],.sl .n []],ii 4]:=by
   unfold readP
   rw [if_neg (by omega)]
   cases hp:parsedB t with
   | error e=>rfl
   | ok f=>have:=(read_alike t f).1 hp;rw [hr] at this;cases this
  repeat (with_reducible (first | apply nx | apply wQ rfl | ((first | apply wV | apply wW | apply wX | (apply wy (cfR5_ok hk);(focus kernel_rfl)));(focus (simp only [Tryz.f14,cfR5,c21,c58,c60,c61,h3,h2,ht,ht5,hR,hV,hdz,haz,b30,b40,gt_iff_lt,beq_self_eq_true,go_sem];rfl))) | refine wz (cfR5_ok hk) ?_ | (refine wa ?_;refine And.intro ?_ ?_;(focus kernel_rfl))))
  exact ⟨rfl,rfl,_,rfl,rfl⟩
 | some f =>
  have hp:=(read_alike t f).2 hr
  have htx:textB f.1 f.2.1 f.2.2 = t:=(readB_ok hr).1
  have hV:readRV t = .tuple [.agg (rdS f.1 f.2.1 f.2.2).cells,.bool true]:=by unfold readRV;rw [hr];rfl
  have hd2:=decSt_cells (rdS f.1 f.2.1 f.2.2) (rdS_ok _ _ _)
  have b20:((2:Int) != 0) = true:=rfl
  have b00:((0:Int) != 0) = false:=rfl
  cases hst:(rdS f.1 f.2.1 f.2.2).story
  ·have hR:readP t = .tuple [.agg [ii 0,.sl .n [],.sl .n []],ii 2]:=by
    unfold readP
    rw [if_neg (by omega),hp]
    dsimp only
    rw [hst]
    rfl
   generalize rdS f.1 f.2.1 f.2.2 = s2 at hV hd2 hst
   have h5:=closedL_sns s2.sc
   have h6:=closedL_rzs s2.rz
   repeat (with_reducible (first | apply nx | apply wQ rfl | ((first | apply wV | apply wW | apply wX | (apply wy (cfR5_ok hk);(focus kernel_rfl)));(focus (simp only [Tryz.f14,cfR5,c20,c21,c58,c60,c61,h3,h2,ht,ht5,hR,hV,hd2,hst,hdz,haz,h5,h6,b20,gt_iff_lt,beq_self_eq_true,go_sem];rfl))) | refine wz (cfR5_ok hk) ?_ | (refine wa ?_;refine And.intro ?_ ?_;(focus kernel_rfl))))
   exact ⟨rfl,rfl,_,rfl,rfl⟩
  ·have hR:readP t = .tuple [.agg (rdS f.1 f.2.1 f.2.2).cells,ii 0]:=by
    unfold readP
    rw [if_neg (by omega),hp]
    dsimp only
    rw [if_pos hst]
    rfl
   have hP:printR (rdS f.1 f.2.1 f.2.2) = .tuple [.str t,ii 0]:=by
    unfold printR
    rw [if_pos hst,rdS_rl]
    show PV.tuple [.str (textB f.1 f.2.1 f.2.2),ii 0] = _
    rw [htx]
   have hal:alikeB (rdS f.1 f.2.1 f.2.2) (rdS f.1 f.2.1 f.2.2) = true:=alike_big (big_of (Sty.story_ok hst).toPartsOk) rfl rfl rfl
   generalize rdS f.1 f.2.1 f.2.2 = s2 at hV hd2 hst hR hP hal
   have h5:=closedL_sns s2.sc
   have h6:=closedL_rzs s2.rz
   repeat (with_reducible (first | apply nx | apply wQ rfl | ((first | apply wV | apply wW | apply wX | (apply wy (cfR5_ok hk);(focus kernel_rfl)));(focus (simp only [Tryz.f14,cfR5,c20,c21,c57,c58,c60,c61,h3,h2,ht,ht5,hR,hV,hP,hd2,hst,hal,h5,h6,b00,gt_iff_lt,beq_self_eq_true,go_sem];rfl))) | refine wz (cfR5_ok hk) ?_ | (refine wa ?_;refine And.intro ?_ ?_;(focus kernel_rfl))))
   exact ⟨rfl,rfl,_,rfl,rfl⟩
end Go.Pv
