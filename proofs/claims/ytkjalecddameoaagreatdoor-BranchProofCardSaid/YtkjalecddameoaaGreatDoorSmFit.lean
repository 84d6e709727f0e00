import Derived.Test.YtkjalecddameoaaGreatDoorSmVers
import Derived.Test.YtkjalecddameoaaGreatDoorSoMore
set_option linter.all false
open List (length_map)
namespace Go.Pv
open Go Go.RowKit Go.Proofs
set_option maxRecDepth 200000
set_option maxHeartbeats 8000000
def stgV(s:Sty)(n:Nt)(p:List Int):PV:=.agg (sj s n .a p)
theorem g8(s:Sty)(n:Nt)(L:List (List Int)):ad (L.map (stgV s n))=true:=aY (g:=stgV s n) (fun p=>show(stgV s n p).closed=true from n9 s n .a p) L
def fitR(s:Sty)(n:Nt):PV:=if(s.story&&evB n)=true then(if(jf n s.sc (aX s.e s.sc s.rl)).length=0 then .tuple [.sl .n [],ii 5]else .tuple [.sl .a ((jf n s.sc (aX s.e s.sc s.rl)).map (stgV s n)),ii 0])else .tuple [.sl .n [],ii 2]
theorem tP(s:Sty)(hok:s.ok=true)(n:Nt):ab Tryz.prog 103 [.agg s.cells,.agg (ntC n)] [] (.ret (fitR s n)) []:=by
 refine ab.ofF hTT Tryz.func103 rfl rfl ?_;have hds:=aS s hok;have hdn:gJ (.agg (ntC n))=some n:=fF n;have hc1:=ap s.sc;have hc2:=ao s.rz;have hV:fitR s n=if(s.story&&evB n)=true then(if(jf n s.sc (aX s.e s.sc s.rl)).length=0 then .tuple [.sl .n [],ii 5]else .tuple [.sl .a ((jf n s.sc (aX s.e s.sc s.rl)).map (stgV s n)),ii 0])else .tuple [.sl .n [],ii 2]:=rfl;generalize fitR s n=V at hV ⊢;cases hst:s.story with
 |false =>
  rw[hst,Bool.false_and,if_neg (by simp)]at hV
  subst hV;repeat with_reducible first|apply nx|apply wQ rfl|(first|apply wV|apply wW|apply wX|apply wy cC;kernel_rfl);simp only[Tryz.f103,BJ,c87,hds,hst,hc1,hc2,go_sem];rfl|refine wz cC ?_|refine wa ⟨by kernel_rfl,?_⟩
  exact⟨rfl,rfl,_,rfl,aq rfl⟩
 |true =>
  cases he:evB n with
  |false =>
   rw[hst,he,Bool.true_and,if_neg (by simp)]at hV
   subst hV;repeat with_reducible first|apply nx|apply wQ rfl|(first|apply wV|apply wW|apply wX|apply wy cC;kernel_rfl);simp only[Tryz.f103,BJ,c87,c101,hds,hdn,hst,he,hc1,hc2,go_sem];rfl|refine wz cC ?_|refine wa ⟨by kernel_rfl,?_⟩
   exact⟨rfl,rfl,_,rfl,aq rfl⟩
  |true =>
   rw[hst,he,Bool.true_and,if_pos rfl]at hV;have hS:StoryOk s.e s.sc s.rl:=fH.1 hst;have hp:=Sty.story_parts hst;have hdt:=eD s hok hst;have h3:=ac s.mm;have h4:=ac s.ln;have hlen:=co hS;have hvd:∀p∈aX s.e s.sc s.rl,vdB s n p=true:=fun p hp=>vd_to (pY hok hst he hp)
   generalize hps:aX s.e s.sc s.rl=ps at hlen hvd hV;obtain⟨zz,hzz⟩:∃zz,zz=(if decide (ps.length=0)=true then Z.n else Z.a):=⟨_,rfl⟩;have hzn:zz=.n->ps=[]:=fun e=>by
    rw[hzz]at e;split at e
    ·rename_i h
     exact List.length_eq_zero_iff.1 (of_decide_eq_true h)
    ·cases e
   have hpv:kT ps=.sl zz (ps.map slx):=by rw[hzz];rfl
   have hls:bD 3 (ps.map slx)=true:=ae 3 _ (aC ps);clear hzz;obtain⟨W,hW⟩:∃W:Nat->List (List Int),W=fun i=>jf n s.sc (ps.take i):=⟨_,rfl⟩
   have hWe:W ps.length=jf n s.sc ps:=by rw[hW];show jf n s.sc (ps.take ps.length)=_;rw[List.take_length]
   have hWs:∀i p,ps[i]?=some p->W (i+1)=W i++if cX n s.sc p=4 then[p]else[]:=fun i p h=>by
    rw[hW];show jf n s.sc (ps.take (i+1))=_;unfold jf;rw[List.take_add_one,h,List.filter_append]
    congr 1
    show[p].filter _=_
    rw[List.filter_cons,List.filter_nil];by_cases h4:cX n s.sc p=4 <;> simp[h4]
   have hWl:∀i,(W i).length<=40:=fun i=>by
    rw[hW];refine Nat.le_trans (List.length_filter_le ..) ?_;rw[List.length_take];omega
   rw[←hWe]at hV;repeat with_reducible first|apply nx|apply wQ rfl|(first|apply wV|apply wW|apply wX|apply wy cC;kernel_rfl);simp only[Tryz.f103,BJ,c87,c88,c89,c101,hds,hdn,hst,he,hp,hdt,hps,hpv,hc1,hc2,h3,h4,length_map,go_sem];rfl|refine wz cC ?_|refine wa ⟨by kernel_rfl,?_⟩
   refine am.keep [22,21,20,6,3,2] (by simp only[go_sem];rfl) ?_
   refine am.nilRow 6 145 11 (by simp only[go_sem]) (by simp only[go_sem];rfl) (by simp only[go_sem];rfl) ?_
   refine am.loop (fun i s'=>s'=⟨[(22,ii (i:Int)),(21,ii (ps.length:Int)),(20,.sl zz (ps.map slx)),(6,.ms 2 (W i).length),(3,.bp 1 0),(2,.bp 0 0)],42,[.var s.cells false,.var (ntC n) false,.row (decide ((W i).length=0)) 145 11 ((W i).map (stgV s n)) false]⟩) ps.length (by rw[show W 0=[]by rw[hW];rfl];first|(simp only[go_sem];done)|(simp only[go_sem];rfl)|rfl) ?_
   rintro i _ hi rfl;by_cases hlt:i<ps.length
   ·obtain⟨p,hp⟩:∃p,ps[i]?=some p:=⟨_,List.getElem?_eq_getElem hlt⟩
    have hp':(ps.map slx)[i]?=some (.sl .a (p.map ii)):=aw hp;have hv:=hvd p (List.mem_of_getElem? hp);have hdi:aN (.sl .a (p.map ii))=some p:=aI rfl;have hcp:=ac p;have hlt':(i:Int)<ps.length:=by omega
    have hzn':zz≠.n:=fun e=>by rw[hzn e]at hlt;simp at hlt
    have e4:IntKind.i64.wrap ((i:Int)+1)=((i+1:Nat):Int):=ai (by omega) (by omega)
    have hst2:=hWs i p hp;have hUl:=hWl i;have hsv:stgV s n p=.agg (sj s n .a p):=rfl;have hls2:=fun L=>ae 3 _ (g8 s n L)
    generalize W i=U at hst2 hUl ⊢;have l1:U.length+1<=maxLen:=by unfold maxLen;omega
    have l2:(U.length+1)*136<=140737488355328:=by omega
    have hd1:decide (U.length+1=0)=false:=by simp
    by_cases h4:cX n s.sc p=4
    ·rw[if_pos h4]at hst2
     have h4':(cX n s.sc p==4)=true:=beq_iff_eq.2 h4;repeat with_reducible first|apply nx|apply wQ rfl|(first|apply wV|apply wW|apply wX|apply wy cC;kernel_rfl);simp only[Tryz.f103,BJ,c102,hds,hdn,hdi,hv,hp',hlt',hzn',h4',e4,l1,l2,hc1,hc2,hcp,length_map,go_sem];rfl|refine wz cC ?_|refine wa ⟨by kernel_rfl,?_⟩
     refine ak.t 3 [22,21,20,6,3,2] hlt (by simp only[aA,aF,an,az,bJ,hls,hls2,go_sem]) (by rw[hst2,List.map_append,List.length_append];first|(simp only[hd1,hsv,go_sem];done)|(simp only[hd1,hsv,go_sem];rfl)|rfl)
    ·rw[if_neg h4,List.append_nil]at hst2
     have h4':(cX n s.sc p==4)=false:=beq_eq_false_iff_ne.2 h4;repeat with_reducible first|apply nx|apply wQ rfl|(first|apply wV|apply wW|apply wX|apply wy cC;kernel_rfl);simp only[Tryz.f103,BJ,c102,hds,hdn,hdi,hv,hp',hlt',hzn',h4',e4,l1,l2,hc1,hc2,hcp,length_map,go_sem];rfl|refine wz cC ?_|refine wa ⟨by kernel_rfl,?_⟩
     refine ak.t 3 [22,21,20,6,3,2] hlt (by simp only[aA,aF,an,az,bJ,hls,hls2,go_sem]) (by rw[hst2];first|(simp only[go_sem];done)|(simp only[go_sem];rfl)|rfl)
   ·obtain rfl:i=ps.length:=by omega
    have hlt':¬(ps.length:Int)<ps.length:=by omega
    generalize W ps.length=U at hV ⊢;by_cases hU:U.length=0
    ·rw[if_pos hU]at hV
     subst hV;have hU':((U.length:Int)==0)=true:=by rw[hU];rfl
     repeat with_reducible first|apply nx|apply wQ rfl|(first|apply wV|apply wW|apply wX|apply wy aa;kernel_rfl);simp only[Tryz.f103,hlt',hU',length_map,go_sem];rfl|refine wz aa ?_|refine wa ⟨by kernel_rfl,?_⟩
     exact⟨rfl,rfl,_,rfl,aq rfl⟩
    ·rw[if_neg hU]at hV
     subst hV;have hU':((U.length:Int)==0)=false:=by rw[beq_eq_false_iff_ne];omega
     have hUd:decide (U.length=0)=false:=decide_eq_false hU;rw[hUd];repeat with_reducible first|apply nx|apply wQ rfl|(first|apply wV|apply wW|apply wX|apply wy aa;kernel_rfl);simp only[Tryz.f103,hlt',hU',length_map,go_sem];rfl|refine wz aa ?_|refine wa ⟨by kernel_rfl,?_⟩
     exact⟨rfl,rfl,_,rfl,oG (id:=2) (z:=false) rfl (g8 s n U) (by rw[length_map]) rfl⟩
def c103:Tb_
 |[v,w],sg=>match cS v,gJ w with
  |some s,some n=>some (.ret (fitR s n),sg)
  |_,_=>none
 |_,_=>none
theorem BC:al Tryz.prog 103 c103:=al.of0 (ent Tryz.func103 rfl) fun args sg r sg' h=>by
 unfold c103 at h;split at h <;> try (cases h;done)
 split at h <;> cases h
 rename_i s n h1 h2;obtain⟨rfl,hok⟩:=aM h1;obtain rfl:=dz h2;exact⟨_,rfl,rfl,by rw[af,af,cm];rfl,tP s hok n⟩
end Go.Pv
