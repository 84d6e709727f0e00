/- Contracts: the verdicts on all plays, the reference's. -/
import Derived.Test.YtkjalecddameoaaGreatDoorQmJudge
import Derived.Test.YtkjalecddameoaaGreatDoorQiRef
set_option linter.all false
open List (length_map getElem?_eq_getElem take_add_one map_append length_take take_length)
namespace Go.Pv
open Go Go.RowKit Go.Proofs
set_option maxRecDepth 200000
set_option maxHeartbeats 8000000
def gK(s:Sty)(n:Nt):List Int:=(aX s.e s.sc s.rl).map (cX n s.sc)
def isVd(l:List Int):PV:=.sl (if decide (l.length=0)=true then .n else .a) (l.map ii)
def cfX9:aG:=aE (aE cf0 31 c31) 104 c104
theorem fq:au Tryz.prog cfX9:=ah (ah aa c31_ok) c104_ok
theorem qv(s:Sty)(hok:s.ok=true)(hst:s.story=true)(n:Nt)(he:evB n=true):ab Tryz.prog 48 [.agg s.cells,.agg (ntC n)] [] (.ret (isVd (gK s n))) []:=by
 refine ab.ofF hTT Tryz.func48 rfl rfl ?_
 have hds:=aS s hok
 have hdn:gJ (.agg (ntC n))=some n:=fF n
 have hS:StoryOk s.e s.sc s.rl:=fH.1 hst
 have hlen:=co hS
 have hvd:∀p∈aX s.e s.sc s.rl,vdB s n p=true:=fun p hp=>vd_to (pY hok hst he hp)
 unfold gK isVd
 rw[length_map]
 generalize hps:aX s.e s.sc s.rl=ps at hlen hvd ⊢
 obtain⟨zz,hzz⟩:∃zz,zz=(if decide (ps.length=0)=true then Z.n else Z.a):=⟨_,rfl⟩
 have hzn:zz=.n->ps=[]:=fun e=>by
  rw[hzz]at e
  split at e
  ·rename_i h
   exact List.length_eq_zero_iff.1 (of_decide_eq_true h)
  ·cases e
 have hpv:kT ps=.sl zz (ps.map slx):=by rw[hzz];rfl
 have hls:bD 3 (ps.map slx)=true:=ae 3 _ (aC ps)
 have hc1:=ap s.sc
 have hc2:=ao s.rz
 clear hzz
 repeat with_reducible first|apply nx|apply wQ rfl|(first|apply wV|apply wW|apply wX|apply wy fq;kernel_rfl);simp only[Tryz.f48,cfX9,c31,hds,hst,hps,hpv,hc1,hc2,length_map,go_sem];rfl|refine wz fq ?_|refine wa ⟨by kernel_rfl,?_⟩
 refine am.keep [7,6,5,4,3,2] (by simp only[go_sem];rfl) ?_
 refine am.nilRow 6 81 1 (by simp only[go_sem]) (by simp only[go_sem];rfl) (by simp only[go_sem];rfl) ?_
 refine am.loop (fun i s'=>s'=⟨[(7,ii (i:Int)),(6,.ms 2 i),(5,.sl zz (ps.map slx)),(4,.sl .n []),(3,.bp 1 0),(2,.bp 0 0)],27,[.var s.cells false,.var (ntC n) false,.row (decide (i=0)) 81 1 (((ps.take i).map (cX n s.sc)).map ii) false]⟩) ps.length (by first|(simp only[go_sem];done)|(simp only[go_sem];rfl)|rfl) ?_
 rintro i _ hi rfl
 by_cases hlt:i<ps.length
 ·obtain⟨p,hp⟩:∃p,ps[i]?=some p:=⟨_,getElem?_eq_getElem hlt⟩
  have hp':(ps.map slx)[i]?=some (.sl .a (p.map ii)):=aw hp
  have hv:=hvd p (List.mem_of_getElem? hp)
  have hdi:aN (.sl .a (p.map ii))=some p:=aI rfl
  have hcp:=ac p
  have hlt':(i:Int)<ps.length:=by omega
  have hzn':zz≠.n:=fun e=>by rw[hzn e]at hlt;simp at hlt
  have e4:IntKind.i64.wrap ((i:Int)+1)=((i+1:Nat):Int):=ai (by omega) (by omega)
  have l1:i+1<=maxLen:=by unfold maxLen;omega
  have l2:(i+1)*8<=140737488355328:=by omega
  have hd1:decide (i+1=0)=false:=by simp
  have hst2:(ps.take (i+1)).map (cX n s.sc)=(ps.take i).map (cX n s.sc)++[cX n s.sc p]:=by rw[take_add_one,hp,map_append];rfl
  have hll:((ps.take i).map (cX n s.sc)).length=i:=by rw[length_map,length_take];omega
  generalize (ps.take i).map (cX n s.sc)=A at hst2 hll ⊢
  repeat with_reducible first|apply nx|apply wQ rfl|(first|apply wV|apply wW|apply wX|apply wy fq;kernel_rfl);simp only[Tryz.f48,cfX9,c104,hds,hdn,hdi,hv,hp',hlt',hzn',e4,l1,l2,hll,hc1,hc2,hcp,length_map,go_sem];rfl|refine wz fq ?_|refine wa ⟨by kernel_rfl,?_⟩
  refine ak.t 3 [7,6,5,4,3,2] hlt (by simp only[aA,aF,an,az,bJ,hls,go_sem]) (by rw[hst2,map_append];first|(simp only[hd1,go_sem];done)|(simp only[hd1,go_sem];rfl)|rfl)
 ·obtain rfl:i=ps.length:=by omega
  rw[take_length]
  have hlt':¬(ps.length:Int)<ps.length:=by omega
  repeat with_reducible first|apply nx|apply wQ rfl|(first|apply wV|apply wW|apply wX|apply wy aa;kernel_rfl);simp only[Tryz.f48,hlt',length_map,go_sem];rfl|refine wz aa ?_|refine wa ⟨by kernel_rfl,?_⟩
  exact⟨rfl,rfl,_,rfl,leave_row (id:=2) rfl (ac _) (by rw[length_map,length_map])⟩
def rE(s:Sty)(n:Nt):PV:=if(s.story&&evB n)=true then .tuple [isVd (gK s n),ii 0]else .tuple [.sl .n [],ii 2]
def cfVz:aG:=aE (aE (aE (aE (aE cf0 87 c87) 88 c88) 89 c89) 101 c101) 102 c102
theorem cC:au Tryz.prog cfVz:=ah (ah (ah (ah (ah aa qE) qG) va) c101_ok) c102_ok
theorem sK(s:Sty)(hok:s.ok=true)(n:Nt):ab Tryz.prog 44 [.agg s.cells,.agg (ntC n)] [] (.ret (rE s n)) []:=by
 refine ab.ofF hTT Tryz.func44 rfl rfl ?_
 have hds:=aS s hok
 have hdn:gJ (.agg (ntC n))=some n:=fF n
 have hc1:=ap s.sc
 have hc2:=ao s.rz
 have hV:rE s n=if(s.story&&evB n)=true then .tuple [isVd (gK s n),ii 0]else .tuple [.sl .n [],ii 2]:=rfl
 generalize rE s n=V at hV ⊢
 cases hst:s.story with
 |false =>
  rw[hst,Bool.false_and,if_neg (by simp)]at hV
  subst hV
  repeat with_reducible first|apply nx|apply wQ rfl|(first|apply wV|apply wW|apply wX|apply wy cC;kernel_rfl);simp only[Tryz.f44,cfVz,c87,hds,hst,hc1,hc2,go_sem];rfl|refine wz cC ?_|refine wa ⟨by kernel_rfl,?_⟩
  exact⟨rfl,rfl,_,rfl,aq rfl⟩
 |true =>
  cases he:evB n with
  |false =>
   rw[hst,he,Bool.true_and,if_neg (by simp)]at hV
   subst hV
   repeat with_reducible first|apply nx|apply wQ rfl|(first|apply wV|apply wW|apply wX|apply wy cC;kernel_rfl);simp only[Tryz.f44,cfVz,c87,c101,hds,hdn,hst,he,hc1,hc2,go_sem];rfl|refine wz cC ?_|refine wa ⟨by kernel_rfl,?_⟩
   exact⟨rfl,rfl,_,rfl,aq rfl⟩
  |true =>
   rw[hst,he,Bool.true_and,if_pos rfl]at hV
   have hS:StoryOk s.e s.sc s.rl:=fH.1 hst
   have hp:=Sty.story_parts hst
   have hdt:=eD s hok hst
   have h3:=ac s.mm
   have h4:=ac s.ln
   have hlen:=co hS
   have hvd:∀p∈aX s.e s.sc s.rl,vdB s n p=true:=fun p hp=>vd_to (pY hok hst he hp)
   unfold gK isVd at hV
   rw[length_map]at hV
   generalize hps:aX s.e s.sc s.rl=ps at hlen hvd hV
   obtain⟨zz,hzz⟩:∃zz,zz=(if decide (ps.length=0)=true then Z.n else Z.a):=⟨_,rfl⟩
   have hzn:zz=.n->ps=[]:=fun e=>by
    rw[hzz]at e
    split at e
    ·rename_i h
     exact List.length_eq_zero_iff.1 (of_decide_eq_true h)
    ·cases e
   have hpv:kT ps=.sl zz (ps.map slx):=by rw[hzz];rfl
   have hls:bD 3 (ps.map slx)=true:=ae 3 _ (aC ps)
   clear hzz
   subst hV
   repeat with_reducible first|apply nx|apply wQ rfl|(first|apply wV|apply wW|apply wX|apply wy cC;kernel_rfl);simp only[Tryz.f44,cfVz,c87,c88,c89,c101,hds,hdn,hst,he,hp,hdt,hps,hpv,hc1,hc2,h3,h4,length_map,go_sem];rfl|refine wz cC ?_|refine wa ⟨by kernel_rfl,?_⟩
   refine am.keep [21,20,19,6,3,2] (by simp only[go_sem];rfl) ?_
   refine am.nilRow 6 81 1 (by simp only[go_sem]) (by simp only[go_sem];rfl) (by simp only[go_sem];rfl) ?_
   refine am.loop (fun i s'=>s'=⟨[(21,ii (i:Int)),(20,ii (ps.length:Int)),(19,.sl zz (ps.map slx)),(6,.ms 2 i),(3,.bp 1 0),(2,.bp 0 0)],35,[.var s.cells false,.var (ntC n) false,.row (decide (i=0)) 81 1 (((ps.take i).map (cX n s.sc)).map ii) false]⟩) ps.length (by first|(simp only[go_sem];done)|(simp only[go_sem];rfl)|rfl) ?_
   rintro i _ hi rfl
   by_cases hlt:i<ps.length
   ·obtain⟨p,hp⟩:∃p,ps[i]?=some p:=⟨_,getElem?_eq_getElem hlt⟩
    have hp':(ps.map slx)[i]?=some (.sl .a (p.map ii)):=aw hp
    have hv:=hvd p (List.mem_of_getElem? hp)
    have hdi:aN (.sl .a (p.map ii))=some p:=aI rfl
    have hcp:=ac p
    have hlt':(i:Int)<ps.length:=by omega
    have hzn':zz≠.n:=fun e=>by rw[hzn e]at hlt;simp at hlt
    have e4:IntKind.i64.wrap ((i:Int)+1)=((i+1:Nat):Int):=ai (by omega) (by omega)
    have l1:i+1<=maxLen:=by unfold maxLen;omega
    have l2:(i+1)*8<=140737488355328:=by omega
    have hd1:decide (i+1=0)=false:=by simp
    have hst2:(ps.take (i+1)).map (cX n s.sc)=(ps.take i).map (cX n s.sc)++[cX n s.sc p]:=by rw[take_add_one,hp,map_append];rfl
    have hll:((ps.take i).map (cX n s.sc)).length=i:=by rw[length_map,length_take];omega
    generalize (ps.take i).map (cX n s.sc)=A at hst2 hll ⊢
    repeat with_reducible first|apply nx|apply wQ rfl|(first|apply wV|apply wW|apply wX|apply wy cC;kernel_rfl);simp only[Tryz.f44,cfVz,c102,hds,hdn,hdi,hv,hp',hlt',hzn',e4,l1,l2,hll,hc1,hc2,hcp,length_map,go_sem];rfl|refine wz cC ?_|refine wa ⟨by kernel_rfl,?_⟩
    refine ak.t 3 [21,20,19,6,3,2] hlt (by simp only[aA,aF,an,az,bJ,hls,go_sem]) (by rw[hst2,map_append];first|(simp only[hd1,go_sem];done)|(simp only[hd1,go_sem];rfl)|rfl)
   ·obtain rfl:i=ps.length:=by omega
    rw[take_length]
    have hlt':¬(ps.length:Int)<ps.length:=by omega
    repeat with_reducible first|apply nx|apply wQ rfl|(first|apply wV|apply wW|apply wX|apply wy aa;kernel_rfl);simp only[Tryz.f44,hlt',length_map,go_sem];rfl|refine wz aa ?_|refine wa ⟨by kernel_rfl,?_⟩
    exact⟨rfl,rfl,_,rfl,oG (id:=2) rfl (ac _) (by rw[length_map,length_map]) rfl⟩
def Ah(s:Sty)(n:Nt)(p:List Int):PV:=.agg (sj s n .a p)
theorem g8(s:Sty)(n:Nt)(L:List (List Int)):ad (L.map (Ah s n))=true:=aY (g:=Ah s n) (fun p=>show(Ah s n p).closed=true from n9 s n .a p) L
def fitR(s:Sty)(n:Nt):PV:=if(s.story&&evB n)=true then(if(jf n s.sc (aX s.e s.sc s.rl)).length=0 then .tuple [.sl .n [],ii 5]else .tuple [.sl .a ((jf n s.sc (aX s.e s.sc s.rl)).map (Ah s n)),ii 0])else .tuple [.sl .n [],ii 2]
theorem tP(s:Sty)(hok:s.ok=true)(n:Nt):ab Tryz.prog 103 [.agg s.cells,.agg (ntC n)] [] (.ret (fitR s n)) []:=by
 refine ab.ofF hTT Tryz.func103 rfl rfl ?_
 have hds:=aS s hok
 have hdn:gJ (.agg (ntC n))=some n:=fF n
 have hc1:=ap s.sc
 have hc2:=ao s.rz
 have hV:fitR s n=if(s.story&&evB n)=true then(if(jf n s.sc (aX s.e s.sc s.rl)).length=0 then .tuple [.sl .n [],ii 5]else .tuple [.sl .a ((jf n s.sc (aX s.e s.sc s.rl)).map (Ah s n)),ii 0])else .tuple [.sl .n [],ii 2]:=rfl
 generalize fitR s n=V at hV ⊢
 cases hst:s.story with
 |false =>
  rw[hst,Bool.false_and,if_neg (by simp)]at hV
  subst hV
  repeat with_reducible first|apply nx|apply wQ rfl|(first|apply wV|apply wW|apply wX|apply wy cC;kernel_rfl);simp only[Tryz.f103,cfVz,c87,hds,hst,hc1,hc2,go_sem];rfl|refine wz cC ?_|refine wa ⟨by kernel_rfl,?_⟩
  exact⟨rfl,rfl,_,rfl,aq rfl⟩
 |true =>
  cases he:evB n with
  |false =>
   rw[hst,he,Bool.true_and,if_neg (by simp)]at hV
   subst hV
   repeat with_reducible first|apply nx|apply wQ rfl|(first|apply wV|apply wW|apply wX|apply wy cC;kernel_rfl);simp only[Tryz.f103,cfVz,c87,c101,hds,hdn,hst,he,hc1,hc2,go_sem];rfl|refine wz cC ?_|refine wa ⟨by kernel_rfl,?_⟩
   exact⟨rfl,rfl,_,rfl,aq rfl⟩
  |true =>
   rw[hst,he,Bool.true_and,if_pos rfl]at hV
   have hS:StoryOk s.e s.sc s.rl:=fH.1 hst
   have hp:=Sty.story_parts hst
   have hdt:=eD s hok hst
   have h3:=ac s.mm
   have h4:=ac s.ln
   have hlen:=co hS
   have hvd:∀p∈aX s.e s.sc s.rl,vdB s n p=true:=fun p hp=>vd_to (pY hok hst he hp)
   generalize hps:aX s.e s.sc s.rl=ps at hlen hvd hV
   obtain⟨zz,hzz⟩:∃zz,zz=(if decide (ps.length=0)=true then Z.n else Z.a):=⟨_,rfl⟩
   have hzn:zz=.n->ps=[]:=fun e=>by
    rw[hzz]at e
    split at e
    ·rename_i h
     exact List.length_eq_zero_iff.1 (of_decide_eq_true h)
    ·cases e
   have hpv:kT ps=.sl zz (ps.map slx):=by rw[hzz];rfl
   have hls:bD 3 (ps.map slx)=true:=ae 3 _ (aC ps)
   clear hzz
   obtain⟨W,hW⟩:∃W:Nat->List (List Int),W=fun i=>jf n s.sc (ps.take i):=⟨_,rfl⟩
   have hWe:W ps.length=jf n s.sc ps:=by rw[hW];show jf n s.sc (ps.take ps.length)=_;rw[take_length]
   have hWs:∀i p,ps[i]?=some p->W (i+1)=W i++if cX n s.sc p=4 then[p]else[]:=fun i p h=>by
    rw[hW]
    show jf n s.sc (ps.take (i+1))=_
    unfold jf
    rw[take_add_one,h,List.filter_append]
    congr 1
    show[p].filter _=_
    rw[List.filter_cons,List.filter_nil]
    by_cases h4:cX n s.sc p=4 <;> simp[h4]
   have hWl:∀i,(W i).length<=40:=fun i=>by
    rw[hW]
    refine Nat.le_trans (List.length_filter_le ..) ?_
    rw[length_take];omega
   rw[←hWe]at hV
   repeat with_reducible first|apply nx|apply wQ rfl|(first|apply wV|apply wW|apply wX|apply wy cC;kernel_rfl);simp only[Tryz.f103,cfVz,c87,c88,c89,c101,hds,hdn,hst,he,hp,hdt,hps,hpv,hc1,hc2,h3,h4,length_map,go_sem];rfl|refine wz cC ?_|refine wa ⟨by kernel_rfl,?_⟩
   refine am.keep [22,21,20,6,3,2] (by simp only[go_sem];rfl) ?_
   refine am.nilRow 6 145 11 (by simp only[go_sem]) (by simp only[go_sem];rfl) (by simp only[go_sem];rfl) ?_
   refine am.loop (fun i s'=>s'=⟨[(22,ii (i:Int)),(21,ii (ps.length:Int)),(20,.sl zz (ps.map slx)),(6,.ms 2 (W i).length),(3,.bp 1 0),(2,.bp 0 0)],42,[.var s.cells false,.var (ntC n) false,.row (decide ((W i).length=0)) 145 11 ((W i).map (Ah s n)) false]⟩) ps.length (by rw[show W 0=[]by rw[hW];rfl];first|(simp only[go_sem];done)|(simp only[go_sem];rfl)|rfl) ?_
   rintro i _ hi rfl
   by_cases hlt:i<ps.length
   ·obtain⟨p,hp⟩:∃p,ps[i]?=some p:=⟨_,getElem?_eq_getElem hlt⟩
    have hp':(ps.map slx)[i]?=some (.sl .a (p.map ii)):=aw hp
    have hv:=hvd p (List.mem_of_getElem? hp)
    have hdi:aN (.sl .a (p.map ii))=some p:=aI rfl
    have hcp:=ac p
    have hlt':(i:Int)<ps.length:=by omega
    have hzn':zz≠.n:=fun e=>by rw[hzn e]at hlt;simp at hlt
    have e4:IntKind.i64.wrap ((i:Int)+1)=((i+1:Nat):Int):=ai (by omega) (by omega)
    have hst2:=hWs i p hp
    have hUl:=hWl i
    have hsv:Ah s n p=.agg (sj s n .a p):=rfl
    have hls2:=fun L=>ae 3 _ (g8 s n L)
    generalize W i=U at hst2 hUl ⊢
    have l1:U.length+1<=maxLen:=by unfold maxLen;omega
    have l2:(U.length+1)*136<=140737488355328:=by omega
    have hd1:decide (U.length+1=0)=false:=by simp
    by_cases h4:cX n s.sc p=4
    ·rw[if_pos h4]at hst2
     have h4':(cX n s.sc p==4)=true:=beq_iff_eq.2 h4
     repeat with_reducible first|apply nx|apply wQ rfl|(first|apply wV|apply wW|apply wX|apply wy cC;kernel_rfl);simp only[Tryz.f103,cfVz,c102,hds,hdn,hdi,hv,hp',hlt',hzn',h4',e4,l1,l2,hc1,hc2,hcp,length_map,go_sem];rfl|refine wz cC ?_|refine wa ⟨by kernel_rfl,?_⟩
     refine ak.t 3 [22,21,20,6,3,2] hlt (by simp only[aA,aF,an,az,bJ,hls,hls2,go_sem]) (by rw[hst2,map_append,List.length_append];first|(simp only[hd1,hsv,go_sem];done)|(simp only[hd1,hsv,go_sem];rfl)|rfl)
    ·rw[if_neg h4,List.append_nil]at hst2
     have h4':(cX n s.sc p==4)=false:=beq_eq_false_iff_ne.2 h4
     repeat with_reducible first|apply nx|apply wQ rfl|(first|apply wV|apply wW|apply wX|apply wy cC;kernel_rfl);simp only[Tryz.f103,cfVz,c102,hds,hdn,hdi,hv,hp',hlt',hzn',h4',e4,l1,l2,hc1,hc2,hcp,length_map,go_sem];rfl|refine wz cC ?_|refine wa ⟨by kernel_rfl,?_⟩
     refine ak.t 3 [22,21,20,6,3,2] hlt (by simp only[aA,aF,an,az,bJ,hls,hls2,go_sem]) (by rw[hst2];first|(simp only[go_sem];done)|(simp only[go_sem];rfl)|rfl)
   ·obtain rfl:i=ps.length:=by omega
    have hlt':¬(ps.length:Int)<ps.length:=by omega
    generalize W ps.length=U at hV ⊢
    by_cases hU:U.length=0
    ·rw[if_pos hU]at hV
     subst hV
     have hU':((U.length:Int)==0)=true:=by rw[hU];rfl
     repeat with_reducible first|apply nx|apply wQ rfl|(first|apply wV|apply wW|apply wX|apply wy aa;kernel_rfl);simp only[Tryz.f103,hlt',hU',length_map,go_sem];rfl|refine wz aa ?_|refine wa ⟨by kernel_rfl,?_⟩
     exact⟨rfl,rfl,_,rfl,aq rfl⟩
    ·rw[if_neg hU]at hV
     subst hV
     have hU':((U.length:Int)==0)=false:=by rw[beq_eq_false_iff_ne];omega
     have hUd:decide (U.length=0)=false:=decide_eq_false hU
     rw[hUd]
     repeat with_reducible first|apply nx|apply wQ rfl|(first|apply wV|apply wW|apply wX|apply wy aa;kernel_rfl);simp only[Tryz.f103,hlt',hU',length_map,go_sem];rfl|refine wz aa ?_|refine wa ⟨by kernel_rfl,?_⟩
     exact⟨rfl,rfl,_,rfl,oG (id:=2) (z:=false) rfl (g8 s n U) (by rw[length_map]) rfl⟩
theorem tf(s:Sty)(hok:s.ok=true)(hst:s.story=true)(n:Nt)(he:evB n=true):ab Tryz.prog 49 [.agg s.cells,.agg (ntC n)] [] (.ret (kT (jf n s.sc (aX s.e s.sc s.rl)))) []:=by
 refine ab.ofF hTT Tryz.func49 rfl rfl ?_
 have hds:=aS s hok
 have hdn:gJ (.agg (ntC n))=some n:=fF n
 have hS:StoryOk s.e s.sc s.rl:=fH.1 hst
 have hlen:=co hS
 have hvd:∀p∈aX s.e s.sc s.rl,vdB s n p=true:=fun p hp=>vd_to (pY hok hst he hp)
 generalize hps:aX s.e s.sc s.rl=ps at hlen hvd ⊢
 obtain⟨zz,hzz⟩:∃zz,zz=(if decide (ps.length=0)=true then Z.n else Z.a):=⟨_,rfl⟩
 have hzn:zz=.n->ps=[]:=fun e=>by
  rw[hzz]at e
  split at e
  ·rename_i h
   exact List.length_eq_zero_iff.1 (of_decide_eq_true h)
  ·cases e
 have hpv:kT ps=.sl zz (ps.map slx):=by rw[hzz];rfl
 have hls:bD 3 (ps.map slx)=true:=ae 3 _ (aC ps)
 have hc1:=ap s.sc
 have hc2:=ao s.rz
 clear hzz
 obtain⟨W,hW⟩:∃W:Nat->List (List Int),W=fun i=>jf n s.sc (ps.take i):=⟨_,rfl⟩
 have hWe:W ps.length=jf n s.sc ps:=by rw[hW];show jf n s.sc (ps.take ps.length)=_;rw[take_length]
 have hWs:∀i p,ps[i]?=some p->W (i+1)=W i++if cX n s.sc p=4 then[p]else[]:=fun i p h=>by
  rw[hW]
  show jf n s.sc (ps.take (i+1))=_
  unfold jf
  rw[take_add_one,h,List.filter_append]
  congr 1
  show[p].filter _=_
  rw[List.filter_cons,List.filter_nil]
  by_cases h4:cX n s.sc p=4 <;> simp[h4]
 have hWl:∀i,(W i).length<=40:=fun i=>by
  rw[hW]
  refine Nat.le_trans (List.length_filter_le ..) ?_
  rw[length_take];omega
 rw[←hWe]
 repeat with_reducible first|apply nx|apply wQ rfl|(first|apply wV|apply wW|apply wX|apply wy fq;kernel_rfl);simp only[Tryz.f49,cfX9,c31,hds,hst,hps,hpv,hc1,hc2,length_map,go_sem];rfl|refine wz fq ?_|refine wa ⟨by kernel_rfl,?_⟩
 refine am.keep [7,6,5,4,3,2] (by simp only[go_sem];rfl) ?_
 refine am.nilRow 6 26 1 (by simp only[go_sem]) (by simp only[go_sem];rfl) (by simp only[go_sem];rfl) ?_
 refine am.loop (fun i s'=>s'=⟨[(7,ii (i:Int)),(6,.ms 2 (W i).length),(5,.sl zz (ps.map slx)),(4,.sl .n []),(3,.bp 1 0),(2,.bp 0 0)],32,[.var s.cells false,.var (ntC n) false,.row (decide ((W i).length=0)) 26 1 ((W i).map slx) false]⟩) ps.length (by rw[show W 0=[]by rw[hW];rfl];first|(simp only[go_sem];done)|(simp only[go_sem];rfl)|rfl) ?_
 rintro i _ hi rfl
 by_cases hlt:i<ps.length
 ·obtain⟨p,hp⟩:∃p,ps[i]?=some p:=⟨_,getElem?_eq_getElem hlt⟩
  have hp':(ps.map slx)[i]?=some (.sl .a (p.map ii)):=aw hp
  have hv:=hvd p (List.mem_of_getElem? hp)
  have hdi:aN (.sl .a (p.map ii))=some p:=aI rfl
  have hcp:=ac p
  have hlt':(i:Int)<ps.length:=by omega
  have hzn':zz≠.n:=fun e=>by rw[hzn e]at hlt;simp at hlt
  have e4:IntKind.i64.wrap ((i:Int)+1)=((i+1:Nat):Int):=ai (by omega) (by omega)
  have hst2:=hWs i p hp
  have hUl:=hWl i
  have hsv:slx p=.sl .a (p.map ii):=rfl
  have hls2:=fun L=>ae 3 _ (aC L)
  generalize W i=U at hst2 hUl ⊢
  have l1:U.length+1<=maxLen:=by unfold maxLen;omega
  have l2:(U.length+1)*24<=140737488355328:=by omega
  have hd1:decide (U.length+1=0)=false:=by simp
  by_cases h4:cX n s.sc p=4
  ·rw[if_pos h4]at hst2
   have h4':(cX n s.sc p==4)=true:=beq_iff_eq.2 h4
   repeat with_reducible first|apply nx|apply wQ rfl|(first|apply wV|apply wW|apply wX|apply wy fq;kernel_rfl);simp only[Tryz.f49,cfX9,c104,hds,hdn,hdi,hv,hp',hlt',hzn',h4',e4,l1,l2,hc1,hc2,hcp,length_map,go_sem];rfl|refine wz fq ?_|refine wa ⟨by kernel_rfl,?_⟩
   refine ak.t 3 [7,6,5,4,3,2] hlt (by simp only[aA,aF,an,az,bJ,hls,hls2,go_sem]) (by rw[hst2,map_append,List.length_append];first|(simp only[hd1,hsv,go_sem];done)|(simp only[hd1,hsv,go_sem];rfl)|rfl)
  ·rw[if_neg h4,List.append_nil]at hst2
   have h4':(cX n s.sc p==4)=false:=beq_eq_false_iff_ne.2 h4
   repeat with_reducible first|apply nx|apply wQ rfl|(first|apply wV|apply wW|apply wX|apply wy fq;kernel_rfl);simp only[Tryz.f49,cfX9,c104,hds,hdn,hdi,hv,hp',hlt',hzn',h4',e4,l1,l2,hc1,hc2,hcp,length_map,go_sem];rfl|refine wz fq ?_|refine wa ⟨by kernel_rfl,?_⟩
   refine ak.t 3 [7,6,5,4,3,2] hlt (by simp only[aA,aF,an,az,bJ,hls,hls2,go_sem]) (by rw[hst2];first|(simp only[go_sem];done)|(simp only[go_sem];rfl)|rfl)
 ·obtain rfl:i=ps.length:=by omega
  have hlt':¬(ps.length:Int)<ps.length:=by omega
  generalize W ps.length=U
  repeat with_reducible first|apply nx|apply wQ rfl|(first|apply wV|apply wW|apply wX|apply wy aa;kernel_rfl);simp only[Tryz.f49,hlt',length_map,go_sem];rfl|refine wz aa ?_|refine wa ⟨by kernel_rfl,?_⟩
  exact⟨rfl,rfl,_,rfl,leave_row (id:=2) rfl (aC _) (by rw[length_map])⟩
theorem v8(za zb:Z)(a b:List Int)(ha:za=.n->a=[])(hb:zb=.n->b=[])(hs:a.length<=maxLen):ab Tryz.prog 47 [.sl za (a.map ii),.sl zb (b.map ii)] [] (.ret (.bool (decide (a=b)))) []:=by
 refine ab.of0 hTT Tryz.func47 rfl rfl ?_
 unfold maxLen at hs
 by_cases hl:a.length=b.length
 ·repeat with_reducible first|apply nx|apply wQ rfl|(first|apply wV|apply wW|apply wX|apply wy aa;kernel_rfl);simp only[Tryz.f47,hl,go_sem];rfl|refine wz aa ?_|refine wa ⟨by kernel_rfl,?_⟩
  refine am.keep [5,4,1,0] (by simp only[go_sem];rfl) ?_
  refine am.loop (fun i s'=>decide (a=b)=decide (a.drop i=b.drop i)∧s'=⟨[(5,ii i),(4,.bool false),(0,.sl za (a.map ii)),(1,.sl zb (b.map ii))],26,[]⟩) b.length ⟨rfl,rfl⟩ ?_
  rintro i _ hi ⟨hm,rfl⟩
  by_cases hlt:i<b.length
  ·obtain⟨x,hx⟩:∃x,a[i]?=some x:=⟨_,getElem?_eq_getElem (by omega)⟩
   obtain⟨y,hy⟩:∃y,b[i]?=some y:=⟨_,getElem?_eq_getElem hlt⟩
   have hx':(a.map ii)[i]?=some (ii x):=aw hx
   have hy':(b.map ii)[i]?=some (ii y):=aw hy
   have hlt':(i:Int)<b.length:=by omega
   have hza':za≠.n:=fun e=>by rw[ha e]at hl;simp at hl;omega
   have hzb':zb≠.n:=fun e=>by rw[hb e]at hlt;simp at hlt
   have e4:IntKind.i64.wrap ((i:Int)+1)=((i+1:Nat):Int):=ai (by omega) (by omega)
   by_cases hxy:x=y
   ·have h1:(x != y)=false:=by simp[hxy]
    repeat with_reducible first|apply nx|apply wQ rfl|(first|apply wV|apply wW|apply wX|apply wy aa;kernel_rfl);simp only[Tryz.f47,hl,hx',hy',hlt',hza',hzb',e4,h1,go_sem];rfl|refine wz aa ?_|refine wa ⟨by kernel_rfl,?_⟩
    refine ak.t 0 [5,4,0,1] hlt (by simp only[aF,go_sem]) ⟨by rw[hm,ce hx hy,decide_eq_true hxy];rfl,by simp only[go_sem]⟩
   ·have h1:(x != y)=true:=by simp[hxy]
    repeat with_reducible first|apply nx|apply wQ rfl|(first|apply wV|apply wW|apply wX|apply wy aa;kernel_rfl);simp only[Tryz.f47,hl,hx',hy',hlt',hza',hzb',e4,h1,go_sem];rfl|refine wz aa ?_|refine wa ⟨by kernel_rfl,?_⟩
    refine⟨rfl,rfl,_,rfl,?_⟩
    rw[hm,ce hx hy,decide_eq_false hxy];rfl
  ·have hlt':¬(i:Int)<b.length:=by omega
   repeat with_reducible first|apply nx|apply wQ rfl|(first|apply wV|apply wW|apply wX|apply wy aa;kernel_rfl);simp only[Tryz.f47,hl,hlt',go_sem];rfl|refine wz aa ?_|refine wa ⟨by kernel_rfl,?_⟩
   refine⟨rfl,rfl,_,rfl,?_⟩
   rw[hm,List.drop_eq_nil_of_le (by omega),List.drop_eq_nil_of_le (by omega)];rfl
 ·have hl':((a.length:Int) != (b.length:Int))=true:=eC (by omega)
  repeat with_reducible first|apply nx|apply wQ rfl|(first|apply wV|apply wW|apply wX|apply wy aa;kernel_rfl);simp only[Tryz.f47,hl',go_sem];rfl|refine wz aa ?_|refine wa ⟨by kernel_rfl,?_⟩
  refine⟨rfl,rfl,_,rfl,?_⟩
  rw[decide_eq_false (fun e=>hl (by rw[e]))];rfl
def c47:Tb_
 |[v,w],sg=>match aN v,aN w with
  |some a,some b=>if a.length<=maxLen then some (.ret (.bool (decide (a=b))),sg)else none
  |_,_=>none
 |_,_=>none
theorem c47_ok:al Tryz.prog 47 c47:=al.of0 (ent Tryz.func47 rfl) fun args sg r sg' h=>by
 unfold c47 at h
 split at h <;> try (cases h;done)
 split at h <;> try (cases h;done)
 rename_i h1 h2
 split at h <;> cases h
 rename_i hc
 obtain⟨za,rfl,ha⟩:=aJ h1
 obtain⟨zb,rfl,hb⟩:=aJ h2
 exact⟨_,rfl,rfl,by rw[af,bt,af,bt];rfl,v8 _ _ _ _ ha hb hc⟩
def c44:Tb_
 |[v,w],sg=>match cS v,gJ w with
  |some s,some n=>some (.ret (rE s n),sg)
  |_,_=>none
 |_,_=>none
theorem c44_ok:al Tryz.prog 44 c44:=al.of0 (ent Tryz.func44 rfl) fun args sg r sg' h=>by
 unfold c44 at h
 split at h <;> try (cases h;done)
 split at h <;> cases h
 rename_i s n h1 h2
 obtain⟨rfl,hok⟩:=aM h1
 obtain rfl:=dz h2
 exact⟨_,rfl,rfl,by rw[af,af,cm];rfl,sK s hok n⟩
def c48:Tb_
 |[v,w],sg=>match cS v,gJ w with
  |some s,some n=>if s.story=true∧evB n=true then some (.ret (isVd (gK s n)),sg)else none
  |_,_=>none
 |_,_=>none
theorem c48_ok:al Tryz.prog 48 c48:=al.of0 (ent Tryz.func48 rfl) fun args sg r sg' h=>by
 unfold c48 at h
 split at h <;> try (cases h;done)
 split at h <;> try (cases h;done)
 rename_i s n h1 h2
 split at h <;> cases h
 rename_i hc
 obtain⟨rfl,hok⟩:=aM h1
 obtain rfl:=dz h2
 exact⟨_,rfl,rfl,by rw[af,af,cm];rfl,qv s hok hc.1 n hc.2⟩
def c49:Tb_
 |[v,w],sg=>match cS v,gJ w with
  |some s,some n=>if s.story=true∧evB n=true then some (.ret (kT (jf n s.sc (aX s.e s.sc s.rl))),sg)else none
  |_,_=>none
 |_,_=>none
theorem c49_ok:al Tryz.prog 49 c49:=al.of0 (ent Tryz.func49 rfl) fun args sg r sg' h=>by
 unfold c49 at h
 split at h <;> try (cases h;done)
 split at h <;> try (cases h;done)
 rename_i s n h1 h2
 split at h <;> cases h
 rename_i hc
 obtain⟨rfl,hok⟩:=aM h1
 obtain rfl:=dz h2
 exact⟨_,rfl,rfl,by rw[af,af,cm];rfl,tf s hok hc.1 n hc.2⟩
def c103:Tb_
 |[v,w],sg=>match cS v,gJ w with
  |some s,some n=>some (.ret (fitR s n),sg)
  |_,_=>none
 |_,_=>none
theorem c103_ok:al Tryz.prog 103 c103:=al.of0 (ent Tryz.func103 rfl) fun args sg r sg' h=>by
 unfold c103 at h
 split at h <;> try (cases h;done)
 split at h <;> cases h
 rename_i s n h1 h2
 obtain⟨rfl,hok⟩:=aM h1
 obtain rfl:=dz h2
 exact⟨_,rfl,rfl,by rw[af,af,cm];rfl,tP s hok n⟩
def kY(s:Sty)(n:Nt):PV:=if(s.story&&evB n)=true then el s.sc.length (jf n s.sc (aX s.e s.sc s.rl))else .tuple [.sl .n [],ii 2]
def cfYd:aG:=aE (aE cf0 103 c103) 92 c92
theorem hZ:au Tryz.prog cfYd:=ah (ah aa c103_ok) c92_ok
theorem fit_all{s:Sty}{n:Nt}(hst:s.story=true):(jf n s.sc (aX s.e s.sc s.rl)).length<=40∧∀p∈jf n s.sc (aX s.e s.sc s.rl),p.length<=10:=by
 have hO:=Sty.story_ok hst
 refine⟨Nat.le_trans (List.length_filter_le ..) (co hO),fun p hp=>?_⟩
 have:=hO.plays_fine p (Aa.1 hp).1
 omega
theorem xB(s:Sty)(hok:s.ok=true)(n:Nt):ab Tryz.prog 45 [.agg s.cells,.agg (ntC n)] [] (.ret (kY s n)) []:=by
 refine ab.ofF hTT Tryz.func45 rfl rfl ?_
 have hds:=aS s hok
 have hdn:gJ (.agg (ntC n))=some n:=fF n
 have hc1:=ap s.sc
 have hc2:=ao s.rz
 have n20:((2:Int) != 0)=true:=rfl
 have n50:((5:Int) != 0)=true:=rfl
 have n00:((0:Int) != 0)=false:=rfl
 cases hse:(s.story&&evB n)
 ·have hF:fitR s n=.tuple [.sl .n [],ii 2]:=by unfold fitR;rw[hse,if_neg (by simp)]
  have hV:kY s n=.tuple [.sl .n [],ii 2]:=by unfold kY;rw[hse,if_neg (by simp)]
  rw[hV]
  repeat with_reducible first|apply nx|apply wQ rfl|(first|apply wV|apply wW|apply wX|apply wy hZ;kernel_rfl);simp only[Tryz.f45,cfYd,c103,hds,hdn,hF,n20,hc1,hc2,go_sem];rfl|refine wz hZ ?_|refine wa ⟨by kernel_rfl,?_⟩
  exact⟨rfl,rfl,_,rfl,aq rfl⟩
 ·have hst:s.story=true:=by revert hse;cases s.story <;> simp
  have hO:=Sty.story_ok hst
  have k1:=hO.s1
  have k2:s.sc.length<=1000:=by have:=hO.s8;omega
  obtain⟨l40,l10⟩:=fit_all (n:=n) hst
  have hF0:fitR s n=if(jf n s.sc (aX s.e s.sc s.rl)).length=0 then .tuple [.sl .n [],ii 5]else .tuple [.sl .a ((jf n s.sc (aX s.e s.sc s.rl)).map (Ah s n)),ii 0]:=by unfold fitR;rw[hse,if_pos rfl]
  have hV0:kY s n=el s.sc.length (jf n s.sc (aX s.e s.sc s.rl)):=by unfold kY;rw[hse,if_pos rfl]
  rw[hV0]
  clear hV0
  generalize jf n s.sc (aX s.e s.sc s.rl)=L at *
  by_cases hL0:L.length=0
  ·rw[if_pos hL0]at hF0
   have hV:el s.sc.length L=.tuple [.sl .n [],ii 5]:=by unfold el;rw[if_pos hL0]
   rw[hV]
   repeat with_reducible first|apply nx|apply wQ rfl|(first|apply wV|apply wW|apply wX|apply wy hZ;kernel_rfl);simp only[Tryz.f45,cfYd,c103,hds,hdn,hF0,n50,hc1,hc2,go_sem];rfl|refine wz hZ ?_|refine wa ⟨by kernel_rfl,?_⟩
   exact⟨rfl,rfl,_,rfl,aq rfl⟩
  ·rw[if_neg hL0]at hF0
   have hV:el s.sc.length L=.tuple [.sl .a ((bV s.sc.length L).map ii),ii 0]:=by unfold el;rw[if_neg hL0]
   have hcL:=g8 s n L
   have hls:bD 3 (L.map (Ah s n))=true:=ae 3 _ hcL
   repeat with_reducible first|apply nx|apply wQ rfl|(first|apply wV|apply wW|apply wX|apply wy hZ;kernel_rfl);simp only[Tryz.f45,cfYd,c103,hds,hdn,hF0,n00,hc1,hc2,hcL,length_map,go_sem];rfl|refine wz hZ ?_|refine wa ⟨by kernel_rfl,?_⟩
   refine am.keep [22,21,20,8,3,2] (by simp only[go_sem];rfl) ?_
   refine am.nilRow 8 26 1 (by simp only[go_sem]) (by simp only[go_sem];rfl) (by simp only[go_sem];rfl) ?_
   refine am.loop (fun i s'=>s'=⟨[(22,ii (i:Int)),(21,ii (L.length:Int)),(20,.sl .a (L.map (Ah s n))),(8,.ms 2 i),(3,.bp 1 0),(2,.bp 0 0)],37,[.var s.cells false,.var (ntC n) false,.row (decide (i=0)) 26 1 ((L.take i).map slx) false]⟩) L.length (by first|(simp only[go_sem];done)|(simp only[go_sem];rfl)|rfl) ?_
   rintro i _ hi rfl
   by_cases hlt:i<L.length
   ·obtain⟨p,hp⟩:∃p,L[i]?=some p:=⟨_,getElem?_eq_getElem hlt⟩
    have hp':(L.map (Ah s n))[i]?=some (.agg (sj s n .a p)):=aw hp
    have hcp:=ac p
    have hlt':(i:Int)<L.length:=by omega
    have e4:IntKind.i64.wrap ((i:Int)+1)=((i+1:Nat):Int):=ai (by omega) (by omega)
    have hsv:slx p=.sl .a (p.map ii):=rfl
    have hls2:=fun L=>ae 3 _ (aC L)
    have hst2:L.take (i+1)=L.take i++[p]:=by rw[take_add_one,hp];rfl
    have hUl:(L.take i).length=i:=by rw[length_take];omega
    generalize L.take i=U at hst2 hUl ⊢
    have l1:i+1<=maxLen:=by unfold maxLen;omega
    have l2:(i+1)*24<=140737488355328:=by omega
    have hd1:decide (i+1=0)=false:=by simp
    repeat with_reducible first|apply nx|apply wQ rfl|(first|apply wV|apply wW|apply wX|apply wy aa;kernel_rfl);simp only[Tryz.f45,hp',hlt',hUl,e4,l1,l2,hc1,hc2,hcp,length_map,go_sem];rfl|refine wz aa ?_|refine wa ⟨by kernel_rfl,?_⟩
    refine ak.t 3 [22,21,20,8,3,2] hlt (by simp only[aA,aF,an,az,bJ,hls,hls2,go_sem]) (by rw[hst2,map_append];first|(simp only[hd1,hsv,go_sem];done)|(simp only[hd1,hsv,go_sem];rfl)|rfl)
   ·obtain rfl:i=L.length:=by omega
    have hlt':¬(L.length:Int)<L.length:=by omega
    rw[take_length,decide_eq_false hL0,hV]
    repeat with_reducible first|(fail_if_success refine am.seq (x:=.region 10 _ _) ?_);apply nx|apply wQ rfl|(first|apply wV|apply wW|apply wX|apply wy aa;kernel_rfl);simp only[Tryz.f45,hlt',length_map,go_sem];rfl|(fail_if_success show am _ (.region 10 _ _) _ _);refine wz aa ?_|refine wa ⟨by kernel_rfl,?_⟩
    refine am.keep [8,3,2] (by simp only[go_sem];rfl) ?_
    refine am.freezeZ (tm':=[(8,.sl .a (L.map slx)),(3,.bp 1 0),(2,.bp 0 0)]) (sg':=[.var s.cells false,.var (ntC n) false,.row false 26 1 (L.map slx) true]) 8 2 rfl rfl (by rw[length_map]) (aC L) rfl rfl ?_
    have hdp:wr (.sl .a (L.map slx))=some L:=by
     have:=qh L
     unfold plZ at this
     rw[decide_eq_false hL0]at this
     exact this
    have hcs:=aC L
    have hWR:=hV
    have q1:L.length<=1000:=by omega
    have q2:(L.all fun p=>decide (p.length<=1000))=true:=List.all_eq_true.2 fun p hp=>decide_eq_true (by have:=l10 p hp;omega)
    have hcw:=ac (bV s.sc.length L)
    repeat with_reducible first|apply nx|apply wQ rfl|(first|apply wV|apply wW|apply wX|apply wy hZ;kernel_rfl);simp only[Tryz.f45,cfYd,c92,hds,hdp,hWR,k1,k2,q1,q2,hc1,hc2,hcs,hcw,length_map,go_sem];rfl|refine wz hZ ?_|refine wa ⟨by kernel_rfl,?_⟩
    exact⟨rfl,rfl,_,rfl,aq (show ad [.sl .a ((bV s.sc.length L).map ii),ii 0]=true from by simp[ad,PV.closed,hcw])⟩
def c45:Tb_
 |[v,w],sg=>match cS v,gJ w with
  |some s,some n=>some (.ret (kY s n),sg)
  |_,_=>none
 |_,_=>none
theorem c45_ok:al Tryz.prog 45 c45:=al.of0 (ent Tryz.func45 rfl) fun args sg r sg' h=>by
 unfold c45 at h
 split at h <;> try (cases h;done)
 split at h <;> cases h
 rename_i s n h1 h2
 obtain⟨rfl,hok⟩:=aM h1
 obtain rfl:=dz h2
 exact⟨_,rfl,rfl,by rw[af,af,cm];rfl,xB s hok n⟩
end Go.Pv
