import Derived.Test.YtkjalecddameoaaGreatDoorQmJudge
import Derived.Test.YtkjalecddameoaaGreatDoorQiRef
set_option linter.all false
open Go.Proofs.Tryz
namespace Go.Pv
open Go Go.RowKit Go.Proofs
set_option maxRecDepth 200000
set_option maxHeartbeats 8000000
def cfX9:CallF:=aE (aE cf0 31 c31) 104 c104
theorem fq:CallFOk prog cfX9:=ah (ah aa c31_ok) c104_ok
def cfVz:CallF:=aE (aE (aE (aE (aE cf0 87 c87) 88 c88) 89 c89) 101 c101) 102 c102
theorem cC:CallFOk prog cfVz:=ah (ah (ah (ah (ah aa qE) qG) va) c101_ok) c102_ok
def Ah(s:Sty)(n:Nt)(p:List Int):PV:=.agg (sj s n .a p)
theorem g8(s:Sty)(n:Nt)(L:List (List Int)):ad (L.map (Ah s n))=true:=aY (g:=Ah s n) (fun p=>show(Ah s n p).closed=true from n9 s n .a p) L
def Jd(s:Sty)(n:Nt):PV:=if(s.story&&evB n)=true then(if(jf n s.sc (aX s.e s.sc s.rl)).length=0 then .tuple [.sl .n [],ii 5]else .tuple [.sl .a ((jf n s.sc (aX s.e s.sc s.rl)).map (Ah s n)),ii 0])else .tuple [.sl .n [],ii 2]
theorem tP(s:Sty)(hok:s.ok=true)(n:Nt):ab prog 103 [.agg s.cells,.agg (ntC n)] [] (.ret (Jd s n)) []:=by
 refine ab.ofF hTT func103 rfl rfl ?_;have hds:=aS s hok;have hdn:gJ (.agg (ntC n))=some n:=fF n;have hc1:=ap s.sc;have hc2:=ao s.rz;have hV:Jd s n=if(s.story&&evB n)=true then(if(jf n s.sc (aX s.e s.sc s.rl)).length=0 then .tuple [.sl .n [],ii 5]else .tuple [.sl .a ((jf n s.sc (aX s.e s.sc s.rl)).map (Ah s n)),ii 0])else .tuple [.sl .n [],ii 2]:=rfl;generalize Jd s n=V at hV ⊢;cases hst:s.story with
 |false =>
  rw[hst,Gj,D5 (by simp)]at hV
  subst hV;repeat with_reducible first|refine nz cC ?_|apply ny;simp only[f103,cfVz,c87,hds,hst,hc1,hc2,go_sem];rfl
  exact⟨rfl,rfl,_,rfl,aq rfl⟩
 |true =>
  cases he:evB n with
  |false =>
   rw[hst,he,EJ,D5 (by simp)]at hV
   subst hV;repeat with_reducible first|refine nz cC ?_|apply ny;simp only[f103,cfVz,c87,c101,hds,hdn,hst,he,hc1,hc2,go_sem];rfl
   exact⟨rfl,rfl,_,rfl,aq rfl⟩
  |true =>
   rw[hst,he,EJ,DZ rfl]at hV;have hS:StoryOk s.e s.sc s.rl:=fH.1 hst;have hp:=Sty.story_parts hst;have hdt:=eD s hok hst;have h3:=ac s.mm;have h4:=ac s.ln;have hlen:=co hS;have hvd:∀p∈aX s.e s.sc s.rl,vdB s n p=true:=fun p hp=>vd_to (pY hok hst he hp)
   generalize hps:aX s.e s.sc s.rl=ps at hlen hvd hV;obtain⟨zz,hzz⟩:∃zz,zz=(if decide (ps.length=0)=true then Z.n else Z.a):=⟨_,rfl⟩;have hzn:zz=.n->ps=[]:=fun e=>by
    rw[hzz]at e;split at e
    ·rename_i h
     exact Ew.1 (Eu h)
    ·cases e
   have hpv:kT ps=.sl zz (ps.map slx):=by rw[hzz];rfl
   have hls:bD 3 (ps.map slx)=true:=ae 3 _ (aC ps);clear hzz;obtain⟨W,hW⟩:∃W:Nat->List (List Int),W=fun i=>jf n s.sc (ps.take i):=⟨_,rfl⟩
   have hWe:W ps.length=jf n s.sc ps:=by rw[hW];show jf n s.sc (ps.take ps.length)=_;rw[Eg]
   have hWs:∀i p,ps[i]?=some p->W (i+1)=W i++if cX n s.sc p=4 then[p]else[]:=fun i p h=>by
    rw[hW];show jf n s.sc (ps.take (i+1))=_;unfold jf;rw[Ev,h,Ft]
    congr 1
    show[p].filter _=_
    rw[EZ,GM];by_cases h4:cX n s.sc p=4 <;> simp[h4]
   have hWl:∀i,(W i).length<=40:=fun i=>by
    rw[hW];refine Em (Fh ..) ?_;rw[En];omega
   rw[←hWe]at hV;repeat with_reducible first|refine nz cC ?_|apply ny;simp only[f103,cfVz,c87,c88,c89,c101,hds,hdn,hst,he,hp,hdt,hps,hpv,hc1,hc2,h3,h4,go_sem];rfl
   refine am.keep [22,21,20,6,3,2] (by simp only[go_sem];rfl) ?_
   refine am.nilRow 6 145 11 (by simp only[go_sem]) (by simp only[go_sem];rfl) (by simp only[go_sem];rfl) ?_
   refine am.loop (fun i s'=>s'=⟨[(22,ii (i:Int)),(21,ii (ps.length:Int)),(20,.sl zz (ps.map slx)),(6,.ms 2 (W i).length),(3,.bp 1 0),(2,.bp 0 0)],42,[.var s.cells false,.var (ntC n) false,.row (decide ((W i).length=0)) 145 11 ((W i).map (Ah s n)) false]⟩) ps.length (by rw[show W 0=[]by rw[hW];rfl];first|(simp only[go_sem];first|done|rfl)|rfl) ?_
   rintro i _ hi rfl;by_cases hlt:i<ps.length
   ·obtain⟨p,hp⟩:=gex hlt
    have hp':(ps.map slx)[i]?=some (.sl .a (p.map ii)):=aw hp;have hv:=hvd p (DU hp);have hdi:aN (.sl .a (p.map ii))=some p:=aI rfl;have hcp:=ac p;have hlt':(i:Int)<ps.length:=by omega
    have hzn':zz≠.n:=fun e=>by rw[hzn e]at hlt;simp at hlt
    have e4:=wIs i (by omega)
    have hst2:=hWs i p hp;have hUl:=hWl i;have hsv:Ah s n p=.agg (sj s n .a p):=rfl;have hls2:=fun L=>ae 3 _ (g8 s n L)
    generalize W i=U at hst2 hUl ⊢;have l1:U.length+1<=maxLen:=by unfold maxLen;omega
    have l2:(U.length+1)*136<=140737488355328:=by omega
    have hd1:decide (U.length+1=0)=false:=by simp
    by_cases h4:cX n s.sc p=4
    ·rw[DZ h4]at hst2
     have h4':(cX n s.sc p==4)=true:=FR.2 h4;repeat with_reducible first|refine nz cC ?_|apply ny;simp only[f103,cfVz,c102,hds,hdn,hdi,hv,hp',hlt',hzn',h4',e4,l1,l2,hc1,hc2,hcp,go_sem];rfl
     refine ak.t 3 [22,21,20,6,3,2] hlt (by simp only[aA,aF,an,az,bJ,hls,hls2,go_sem]) (by rw[hst2,Ec,Ea];first|(simp only[hd1,hsv,go_sem];first|done|rfl)|rfl)
    ·rw[D5 h4,Er]at hst2
     have h4':(cX n s.sc p==4)=false:=EF.2 h4;repeat with_reducible first|refine nz cC ?_|apply ny;simp only[f103,cfVz,c102,hds,hdn,hdi,hv,hp',hlt',hzn',h4',e4,l1,l2,hc1,hc2,hcp,go_sem];rfl
     refine ak.t 3 [22,21,20,6,3,2] hlt (by simp only[aA,aF,an,az,bJ,hls,hls2,go_sem]) (by rw[hst2];first|(simp only[go_sem];first|done|rfl)|rfl)
   ·obtain rfl:i=ps.length:=by omega
    have hlt':¬(ps.length:Int)<ps.length:=by omega
    generalize W ps.length=U at hV ⊢;by_cases hU:U.length=0
    ·rw[DZ hU]at hV
     subst hV;have hU':((U.length:Int)==0)=true:=by rw[hU];rfl
     repeat with_reducible first|refine nz aa ?_|apply ny;simp only[f103,hlt',hU',go_sem];rfl
     exact⟨rfl,rfl,_,rfl,aq rfl⟩
    ·rw[D5 hU]at hV
     subst hV;have hU':((U.length:Int)==0)=false:=by rw[EF];omega
     have hUd:decide (U.length=0)=false:=Ei hU;rw[hUd];repeat with_reducible first|refine nz aa ?_|apply ny;simp only[f103,hlt',hU',go_sem];rfl
     exact⟨rfl,rfl,_,rfl,oG (id:=2) (z:=false) rfl (g8 s n U) (by rw[DX]) rfl⟩
theorem tf(s:Sty)(hok:s.ok=true)(hst:s.story=true)(n:Nt)(he:evB n=true):ab prog 49 [.agg s.cells,.agg (ntC n)] [] (.ret (kT (jf n s.sc (aX s.e s.sc s.rl)))) []:=by
 refine ab.ofF hTT func49 rfl rfl ?_;have hds:=aS s hok;have hdn:gJ (.agg (ntC n))=some n:=fF n;have hS:StoryOk s.e s.sc s.rl:=fH.1 hst;have hlen:=co hS;have hvd:∀p∈aX s.e s.sc s.rl,vdB s n p=true:=fun p hp=>vd_to (pY hok hst he hp)
 generalize hps:aX s.e s.sc s.rl=ps at hlen hvd ⊢;obtain⟨zz,hzz⟩:∃zz,zz=(if decide (ps.length=0)=true then Z.n else Z.a):=⟨_,rfl⟩;have hzn:zz=.n->ps=[]:=fun e=>by
  rw[hzz]at e;split at e
  ·rename_i h
   exact Ew.1 (Eu h)
  ·cases e
 have hpv:kT ps=.sl zz (ps.map slx):=by rw[hzz];rfl
 have hls:bD 3 (ps.map slx)=true:=ae 3 _ (aC ps);have hc1:=ap s.sc;have hc2:=ao s.rz;clear hzz;obtain⟨W,hW⟩:∃W:Nat->List (List Int),W=fun i=>jf n s.sc (ps.take i):=⟨_,rfl⟩
 have hWe:W ps.length=jf n s.sc ps:=by rw[hW];show jf n s.sc (ps.take ps.length)=_;rw[Eg]
 have hWs:∀i p,ps[i]?=some p->W (i+1)=W i++if cX n s.sc p=4 then[p]else[]:=fun i p h=>by
  rw[hW];show jf n s.sc (ps.take (i+1))=_;unfold jf;rw[Ev,h,Ft]
  congr 1
  show[p].filter _=_
  rw[EZ,GM];by_cases h4:cX n s.sc p=4 <;> simp[h4]
 have hWl:∀i,(W i).length<=40:=fun i=>by
  rw[hW];refine Em (Fh ..) ?_;rw[En];omega
 rw[←hWe];repeat with_reducible first|refine nz fq ?_|apply ny;simp only[f49,cfX9,c31,hds,hst,hps,hpv,hc1,hc2,go_sem];rfl
 refine am.keep [7,6,5,4,3,2] (by simp only[go_sem];rfl) ?_
 refine am.nilRow 6 26 1 (by simp only[go_sem]) (by simp only[go_sem];rfl) (by simp only[go_sem];rfl) ?_
 refine am.loop (fun i s'=>s'=⟨[(7,ii (i:Int)),(6,.ms 2 (W i).length),(5,.sl zz (ps.map slx)),(4,.sl .n []),(3,.bp 1 0),(2,.bp 0 0)],32,[.var s.cells false,.var (ntC n) false,.row (decide ((W i).length=0)) 26 1 ((W i).map slx) false]⟩) ps.length (by rw[show W 0=[]by rw[hW];rfl];first|(simp only[go_sem];first|done|rfl)|rfl) ?_
 rintro i _ hi rfl;by_cases hlt:i<ps.length
 ·obtain⟨p,hp⟩:=gex hlt
  have hp':(ps.map slx)[i]?=some (.sl .a (p.map ii)):=aw hp;have hv:=hvd p (DU hp);have hdi:aN (.sl .a (p.map ii))=some p:=aI rfl;have hcp:=ac p;have hlt':(i:Int)<ps.length:=by omega
  have hzn':zz≠.n:=fun e=>by rw[hzn e]at hlt;simp at hlt
  have e4:=wIs i (by omega)
  have hst2:=hWs i p hp;have hUl:=hWl i;have hsv:slx p=.sl .a (p.map ii):=rfl;have hls2:=fun L=>ae 3 _ (aC L)
  generalize W i=U at hst2 hUl ⊢;have l1:U.length+1<=maxLen:=by unfold maxLen;omega
  have l2:(U.length+1)*24<=140737488355328:=by omega
  have hd1:decide (U.length+1=0)=false:=by simp
  by_cases h4:cX n s.sc p=4
  ·rw[DZ h4]at hst2
   have h4':(cX n s.sc p==4)=true:=FR.2 h4;repeat with_reducible first|refine nz fq ?_|apply ny;simp only[f49,cfX9,c104,hds,hdn,hdi,hv,hp',hlt',hzn',h4',e4,l1,l2,hc1,hc2,hcp,go_sem];rfl
   refine ak.t 3 [7,6,5,4,3,2] hlt (by simp only[aA,aF,an,az,bJ,hls,hls2,go_sem]) (by rw[hst2,Ec,Ea];first|(simp only[hd1,hsv,go_sem];first|done|rfl)|rfl)
  ·rw[D5 h4,Er]at hst2
   have h4':(cX n s.sc p==4)=false:=EF.2 h4;repeat with_reducible first|refine nz fq ?_|apply ny;simp only[f49,cfX9,c104,hds,hdn,hdi,hv,hp',hlt',hzn',h4',e4,l1,l2,hc1,hc2,hcp,go_sem];rfl
   refine ak.t 3 [7,6,5,4,3,2] hlt (by simp only[aA,aF,an,az,bJ,hls,hls2,go_sem]) (by rw[hst2];first|(simp only[go_sem];first|done|rfl)|rfl)
 ·obtain rfl:i=ps.length:=by omega
  have hlt':¬(ps.length:Int)<ps.length:=by omega
  generalize W ps.length=U;repeat with_reducible first|refine nz aa ?_|apply ny;simp only[f49,hlt',go_sem];rfl
  exact⟨rfl,rfl,_,rfl,leave_row (id:=2) rfl (aC _) (by rw[DX])⟩
def c49:Tb_
 |[v,w],sg=>match cS v,gJ w with
  |some s,some n=>if s.story=true∧evB n=true then some (.ret (kT (jf n s.sc (aX s.e s.sc s.rl))),sg)else none
  |_,_=>none
 |_,_=>none
theorem c49_ok:al prog 49 c49:=al.of0 (ent func49 rfl) fun args sg r sg' h=>by
 unfold c49 at h;split at h <;> try (cases h;done)
 split at h <;> try (cases h;done)
 rename_i s n h1 h2;split at h <;> cases h
 rename_i hc;obtain⟨rfl,hok⟩:=aM h1;obtain rfl:=dz h2;exact⟨_,rfl,rfl,by rw[af,af,cm];rfl,tf s hok hc.1 n hc.2⟩
def c103:Tb_
 |[v,w],sg=>match cS v,gJ w with
  |some s,some n=>some (.ret (Jd s n),sg)
  |_,_=>none
 |_,_=>none
theorem BC:al prog 103 c103:=al.of0 (ent func103 rfl) fun args sg r sg' h=>by
 unfold c103 at h;split at h <;> try (cases h;done)
 split at h <;> cases h
 rename_i s n h1 h2;obtain⟨rfl,hok⟩:=aM h1;obtain rfl:=dz h2;exact⟨_,rfl,rfl,by rw[af,af,cm];rfl,tP s hok n⟩
theorem Ip{s:Sty}{n:Nt}(hst:s.story=true):(jf n s.sc (aX s.e s.sc s.rl)).length<=40∧∀p∈jf n s.sc (aX s.e s.sc s.rl),p.length<=10:=by
 have hO:=Sty.story_ok hst;refine⟨Em (Fh ..) (co hO),fun p hp=>?_⟩
 have:=hO.plays_fine p (Aa.1 hp).1
 omega
end Go.Pv
