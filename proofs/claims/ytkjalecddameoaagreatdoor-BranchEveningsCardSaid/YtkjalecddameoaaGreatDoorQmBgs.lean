import Derived.Test.YtkjalecddameoaaGreatDoorQmTab
set_option linter.all false
open Go.Proofs.Tryz
namespace Go.Pv
open Go Go.RowKit Go.Proofs
set_option maxRecDepth 200000
set_option maxHeartbeats 8000000
theorem Cf{a:Int}{l:List Int}{i:Nat}{x:Int}(h:l[i]?=some x):Cc a (l.take (i+1))=min (Cc a (l.take i)) x:=by
 unfold Cc;rw[Ev,h,FC];rfl
theorem Ch{a:Int}{l:List Int}{i:Nat}{x:Int}(h:l[i]?=some x):Cb a (l.take (i+1))=max (Cb a (l.take i)) x:=by
 unfold Cb;rw[Ev,h,FC];rfl
theorem Min_137(z:Z)(hz:z≠.n)(a:Int)(l:List Int)(hl:l.length<=1000):ab prog 137 [.sl z ((a::l).map ii)] [] (.ret (ii (Cc a l))) []:=by
 refine ab.of0 hTT func137 rfl rfl ?_;obtain⟨A,hA⟩:∃A,A=(a::l).map ii:=⟨_,rfl⟩;rw[←hA];have hAl:A.length=l.length+1:=by rw[hA];simp
 have hA0:A[0]?=some (ii a):=by rw[hA];rfl
 have g1:¬((l.length+1:Nat):Int)<1:=by omega
 have hAc:bD 0 A=true:=by rw[hA];exact ae 0 _ (ac (a::l))
 repeat with_reducible first|refine nz aa ?_|apply ny;simp only[f137,hAl,hA0,g1,hz,go_sem];rfl
 refine am.keep [4,3,0] (by simp only[go_sem];rfl) ?_
 refine am.loop (fun i s'=>s'=⟨[(4,ii ((i+1:Nat):Int)),(3,ii (Cc a (l.take i))),(0,.sl z A)],25,[]⟩) l.length (by first|(simp only[go_sem];first|done|rfl)|rfl) ?_
 rintro i _ hi rfl;obtain⟨j,hj⟩:∃j,j=i+1:=⟨_,rfl⟩;by_cases hlt:i<l.length
 ·obtain⟨x,hx⟩:=gex hlt
  have hx':A[j]?=some (ii x):=by rw[hA,hj];show(l.map ii)[i]?=_;exact aw hx
  have hlt':(j:Int)<((l.length+1:Nat):Int):=by omega
  have e4:IntKind.i64.wrap ((j:Int)+1)=((i+1+1:Nat):Int):=(ai (by omega) (by omega)).trans (by omega)
  have hm:=Cf (a:=a) hx;rw[←hj];repeat with_reducible first|refine nz aa ?_|apply ny;simp only[f137,hAl,hx',hlt',hz,e4,mnI,go_sem];rfl
  refine ak.t 0 [4,3,0] hlt (by simp only[hAc,go_sem]) (by rw[hm];first|(simp only[go_sem];first|done|rfl)|rfl)
 ·obtain rfl:i=l.length:=by omega
  have hlt':¬(j:Int)<((l.length+1:Nat):Int):=by omega
  rw[Eg,←hj];repeat with_reducible first|refine nz aa ?_|apply ny;simp only[f137,hAl,hlt',go_sem];rfl
  exact⟨rfl,rfl,_,rfl,rfl⟩
theorem Max_138(z:Z)(hz:z≠.n)(a:Int)(l:List Int)(hl:l.length<=1000):ab prog 138 [.sl z ((a::l).map ii)] [] (.ret (ii (Cb a l))) []:=by
 refine ab.of0 hTT func138 rfl rfl ?_;obtain⟨A,hA⟩:∃A,A=(a::l).map ii:=⟨_,rfl⟩;rw[←hA];have hAl:A.length=l.length+1:=by rw[hA];simp
 have hA0:A[0]?=some (ii a):=by rw[hA];rfl
 have g1:¬((l.length+1:Nat):Int)<1:=by omega
 have hAc:bD 0 A=true:=by rw[hA];exact ae 0 _ (ac (a::l))
 repeat with_reducible first|refine nz aa ?_|apply ny;simp only[f138,hAl,hA0,g1,hz,go_sem];rfl
 refine am.keep [4,3,0] (by simp only[go_sem];rfl) ?_
 refine am.loop (fun i s'=>s'=⟨[(4,ii ((i+1:Nat):Int)),(3,ii (Cb a (l.take i))),(0,.sl z A)],25,[]⟩) l.length (by first|(simp only[go_sem];first|done|rfl)|rfl) ?_
 rintro i _ hi rfl;obtain⟨j,hj⟩:∃j,j=i+1:=⟨_,rfl⟩;by_cases hlt:i<l.length
 ·obtain⟨x,hx⟩:=gex hlt
  have hx':A[j]?=some (ii x):=by rw[hA,hj];show(l.map ii)[i]?=_;exact aw hx
  have hlt':(j:Int)<((l.length+1:Nat):Int):=by omega
  have e4:IntKind.i64.wrap ((j:Int)+1)=((i+1+1:Nat):Int):=(ai (by omega) (by omega)).trans (by omega)
  have hm:=Ch (a:=a) hx;rw[←hj];repeat with_reducible first|refine nz aa ?_|apply ny;simp only[f138,hAl,hx',hlt',hz,e4,mxI,go_sem];rfl
  refine ak.t 0 [4,3,0] hlt (by simp only[hAc,go_sem]) (by rw[hm];first|(simp only[go_sem];first|done|rfl)|rfl)
 ·obtain rfl:i=l.length:=by omega
  have hlt':¬(j:Int)<((l.length+1:Nat):Int):=by omega
  rw[Eg,←hj];repeat with_reducible first|refine nz aa ?_|apply ny;simp only[f138,hAl,hlt',go_sem];rfl
  exact⟨rfl,rfl,_,rfl,rfl⟩
def c137:Tb_
 |[v],sg=>match aN v with
  |some (a::l)=>if l.length<=1000 then some (.ret (ii (Cc a l)),sg)else none
  |_=>none
 |_,_=>none
theorem c137_ok:al prog 137 c137:=al.of0 (ent func137 rfl) fun args sg r sg' h=>by
 unfold c137 at h;split at h <;> try (cases h;done)
 split at h <;> try (cases h;done)
 rename_i a l h1;split at h <;> cases h
 rename_i hc;obtain⟨z,rfl,hz⟩:=aJ h1;exact⟨_,rfl,rfl,by rw[af,bt];rfl,Min_137 z (fun e=>by cases hz e) a l hc⟩
def c138:Tb_
 |[v],sg=>match aN v with
  |some (a::l)=>if l.length<=1000 then some (.ret (ii (Cb a l)),sg)else none
  |_=>none
 |_,_=>none
theorem c138_ok:al prog 138 c138:=al.of0 (ent func138 rfl) fun args sg r sg' h=>by
 unfold c138 at h;split at h <;> try (cases h;done)
 split at h <;> try (cases h;done)
 rename_i a l h1;split at h <;> cases h
 rename_i hc;obtain⟨z,rfl,hz⟩:=aJ h1;exact⟨_,rfl,rfl,by rw[af,bt];rfl,Max_138 z (fun e=>by cases hz e) a l hc⟩
def Ck(s:Sty)(n:Nt):PV:=if(s.story&&evB n)=true then(match Bg n s.sc (aX s.e s.sc s.rl)with
 |none=>.tuple [.agg [ii 0,ii 0],ii 5]
 |some x=>.tuple [.agg [ii x.1,ii x.2],ii 0])else .tuple [.agg [ii 0,ii 0],ii 2]
def cfYl:CallF:=aE (aE (aE (aE (aE (aE BJ 134 c134) 135 c135) 124 c124) 136 c136) 137 c137) 138 c138
theorem zP:CallFOk prog cfYl:=ah (ah (ah (ah (ah (ah cC c134_ok) c135_ok) c124_ok) c136_ok) c137_ok) c138_ok
theorem Cu(n:Nt)(sc:List Sn)(ps:List (List Int)):Bg n sc ps=match ps.filterMap (A8 n sc)with
 |[]=>none
 |b::B=>some (Cc b.1 (B.map (·.1)),Cb b.2 (B.map (·.2))):=BQ ps
theorem Cd(s:Sty)(hok:s.ok=true)(n:Nt):ab prog 72 [.agg s.cells,.agg (ntC n)] [] (.ret (Ck s n)) []:=by
 refine ab.ofF hTT func72 rfl rfl ?_;have hds:=aS s hok;have hdn:gJ (.agg (ntC n))=some n:=fF n;have hc1:=ap s.sc;have hc2:=ao s.rz;have e50:((5:Int)==0)=false:=rfl;cases hse:(s.story&&evB n)
 ·have hV:Ck s n=.tuple [.agg [ii 0,ii 0],ii 2]:=by unfold Ck;rw[hse,D5 (by simp)]
  rw[hV];cases hst:s.story with
  |false =>
   repeat with_reducible first|refine nz zP ?_|apply ny;simp only[f72,cfYl,BJ,c87,hds,hst,hc1,hc2,go_sem];rfl
   exact⟨rfl,rfl,_,rfl,aq rfl⟩
  |true =>
   have he:evB n=false:=by rw[hst]at hse;exact hse
   repeat with_reducible first|refine nz zP ?_|apply ny;simp only[f72,cfYl,BJ,c87,c101,hds,hdn,hst,he,hc1,hc2,go_sem];rfl
   exact⟨rfl,rfl,_,rfl,aq rfl⟩
 have hst:s.story=true:=by revert hse;cases s.story <;> simp
 have he:evB n=true:=by revert hse;rw[hst];simp
 have hV:Ck s n=match (aX s.e s.sc s.rl).filterMap (A8 n s.sc)with
  |[]=>PV.tuple [.agg [ii 0,ii 0],ii 5]
  |b::B=>.tuple [.agg [ii (Cc b.1 (B.map (·.1))),ii (Cb b.2 (B.map (·.2)))],ii 0]:=by
  unfold Ck;rw[hse,DZ rfl,Cu];cases (aX s.e s.sc s.rl).filterMap (A8 n s.sc) <;> rfl
 rw[hV];clear hV;have hS:StoryOk s.e s.sc s.rl:=fH.1 hst;have hp:=Sty.story_parts hst;have hdt:=eD s hok hst;have h3:=ac s.mm;have h4:=ac s.ln;have hlen:=co hS;have hvd:∀p∈aX s.e s.sc s.rl,Vd s n p:=fun p hp=>pY hok hst he hp
 generalize hps:aX s.e s.sc s.rl=ps at hlen hvd ⊢;obtain⟨zz,hzz⟩:∃zz,zz=(if decide (ps.length=0)=true then Z.n else Z.a):=⟨_,rfl⟩;have hzn:zz=.n->ps=[]:=fun e=>by
  rw[hzz]at e;split at e
  ·rename_i h
   exact Ew.1 (Eu h)
  ·cases e
 have hpv:kT ps=.sl zz (ps.map slx):=by rw[hzz];rfl
 have hls:bD 5 (ps.map slx)=true:=ae 5 _ (aC ps);clear hzz;obtain⟨W,hW⟩:∃W:Nat->List (Int×Int),W=fun i=>(ps.take i).filterMap (A8 n s.sc):=⟨_,rfl⟩
 have hWe:W ps.length=ps.filterMap (A8 n s.sc):=by rw[hW];show(ps.take ps.length).filterMap _=_;rw[Eg]
 have hWs:∀i p,ps[i]?=some p->W (i+1)=W i++(A8 n s.sc p).toList:=fun i p h=>by
  rw[hW]
  show(ps.take (i+1)).filterMap _=_
  rw[Ev,h,Gf]
  congr 1
 have hWl:∀i,(W i).length<=40:=fun i=>by
  rw[hW];refine Em (List.length_filterMap_le ..) ?_;rw[En];omega
 rw[←hWe];repeat with_reducible first|refine nz zP ?_|apply ny;simp only[f72,cfYl,BJ,c87,c88,c89,c101,hds,hdn,hst,he,hp,hdt,hps,hpv,hc1,hc2,h3,h4,go_sem];rfl
 refine am.keep [26,25,24,7,6,4,3,2] (by simp only[go_sem];rfl) ?_
 refine am.nilRow 6 3 1 (by simp only[go_sem]) (by simp only[go_sem];rfl) (by simp only[go_sem];rfl) ?_
 refine am.nilRow 7 3 1 (by simp only[go_sem]) (by simp only[go_sem];rfl) (by simp only[go_sem];rfl) ?_
 refine am.loop (fun i s'=>s'=⟨[(26,ii (i:Int)),(25,ii (ps.length:Int)),(24,.sl zz (ps.map slx)),(7,.ms 4 (W i).length),(6,.ms 3 (W i).length),(4,.bp 2 0),(3,.bp 1 0),(2,.bp 0 0)],70,[.var s.cells false,.var (ntC n) false,.var [ii 0,ii 0] false,.row (decide ((W i).length=0)) 3 1 (((W i).map (·.1)).map ii) false,.row (decide ((W i).length=0)) 3 1 (((W i).map (·.2)).map ii) false]⟩) ps.length (by rw[show W 0=[]by rw[hW];rfl];first|(simp only[go_sem];first|done|rfl)|rfl) ?_
 rintro i _ hi rfl;by_cases hlt:i<ps.length
 ·obtain⟨p,hp⟩:=gex hlt
  have hp':(ps.map slx)[i]?=some (.sl .a (p.map ii)):=aw hp;have hv:=hvd p (DU hp);have hsg:=Cy (z:=.a) hok (vd_to hv) (p:=p) rfl;have hcp:=ac p;have hlt':(i:Int)<ps.length:=by omega
  have hzn':zz≠.n:=fun e=>by rw[hzn e]at hlt;simp at hlt
  have e4:=wIs i (by omega)
  have hst2:=hWs i p hp;have hUl:=hWl i;have hls3:=fun (L:List Int)=>ae 5 _ (ac L)
  generalize W i=U at hst2 hUl ⊢;have l1:U.length+1<=maxLen:=by unfold maxLen;omega
  have l2:(U.length+1)*8<=140737488355328:=by omega
  have hd1:decide (U.length+1=0)=false:=by simp
  cases hf:dT s.sc 0 p with
  |false =>
   have hb:A8 n s.sc p=none:=by unfold A8;rw[hf,D5 (by simp)]
   rw[hb]at hst2;have hst2:W (i+1)=U:=by rw[hst2];exact Er _
   repeat with_reducible first|refine nz zP ?_|apply ny;simp only[f72,cfYl,BJ,c134,c135,hsg,hf,hp',hlt',hzn',e4,hc1,hc2,hcp,go_sem];rfl
   refine ak.t 5 [26,25,24,7,6,4,3,2] hlt (by simp only[aA,aF,an,az,bJ,hls,hls3,go_sem]) (by rw[hst2];first|(simp only[go_sem];first|done|rfl)|rfl)
  |true =>
   cases ho:un (scn s.sc p)with
   |false =>
    have hb:A8 n s.sc p=none:=by unfold A8;rw[ho,D5 (by simp)]
    rw[hb]at hst2;have hst2:W (i+1)=U:=by rw[hst2];exact Er _
    repeat with_reducible first|refine nz zP ?_|apply ny;simp only[f72,cfYl,BJ,c134,c135,hsg,hf,ho,hp',hlt',hzn',e4,hc1,hc2,hcp,go_sem];rfl
    refine ak.t 5 [26,25,24,7,6,4,3,2] hlt (by simp only[aA,aF,an,az,bJ,hls,hls3,go_sem]) (by rw[hst2];first|(simp only[go_sem];first|done|rfl)|rfl)
   |true =>
    have hb:A8 n s.sc p=zM n (scn s.sc p):=by unfold A8;rw[DZ ⟨hf,ho⟩]
    have hpl:du n (scn s.sc p)=true:=by rw[hv.plan,ho]
    have hsn:=str_nof n (scn s.sc p);have hdp:=kr n (scn s.sc p);have hpV:pM n (scn s.sc p)=.agg (plC n (if decide ((scn s.sc p).length=0)=true then .n else .a) (scn s.sc p)):=rfl;rw[hpV]at hdp;have hcc:=ay (scn s.sc p);generalize (if decide ((scn s.sc p).length=0)=true then Z.n else Z.a)=zL at hdp hpV;cases hs:zM n (scn s.sc p)with
    |none =>
     have hstr:strV n ((scn s.sc p).map nof)=.tuple [.agg [ii 0,ii 0],ii 5]:=by rw[hsn];unfold strV;rw[DZ hpl,hs]
     rw[hb,hs]at hst2;have hst2:W (i+1)=U:=by rw[hst2];exact Er _
     repeat with_reducible first|refine nz zP ?_|apply ny;simp only[f72,cfYl,BJ,c134,c135,c124,c136,hsg,hf,ho,hpV,hdp,hstr,e50,hp',hlt',hzn',e4,hc1,hc2,hcp,hcc,go_sem];rfl
     refine ak.t 5 [26,25,24,7,6,4,3,2] hlt (by simp only[aA,aF,an,az,bJ,hls,hls3,go_sem]) (by rw[hst2];first|(simp only[go_sem];first|done|rfl)|rfl)
    |some x =>
     have hstr:strV n ((scn s.sc p).map nof)=.tuple [.agg [ii x.1,ii x.2],ii 0]:=by rw[hsn];unfold strV;rw[DZ hpl,hs]
     rw[hb,hs]at hst2;have hst2:W (i+1)=U++[x]:=hst2;repeat with_reducible first|refine nz zP ?_|apply ny;simp only[f72,cfYl,BJ,c134,c135,c124,c136,hsg,hf,ho,hpV,hdp,hstr,hp',hlt',hzn',e4,l1,l2,hc1,hc2,hcp,hcc,go_sem];rfl
     refine ak.t 5 [26,25,24,7,6,4,3,2] hlt (by simp only[aA,aF,an,az,bJ,hls,hls3,go_sem]) (by rw[hst2,Ec,Ec,Ec,Ec,Ea];first|(simp only[hd1,go_sem];first|done|rfl)|rfl)
 ·obtain rfl:i=ps.length:=by omega
  have hlt':¬(ps.length:Int)<ps.length:=by omega
  have hUl:=hWl ps.length;generalize W ps.length=U at hUl ⊢;by_cases hU0:U=[]
  ·subst hU0
   repeat with_reducible first|refine nz aa ?_|apply ny;simp only[f72,hlt',go_sem];rfl
   exact⟨rfl,rfl,_,rfl,aq rfl⟩
  ·obtain⟨b,B,hUe⟩:∃b B,U=b::B:=by
    cases U with
    |nil=>exact absurd rfl hU0
    |cons b B=>exact⟨b,B,rfl⟩
   have hV:(match U with
    |[]=>PV.tuple [.agg [ii 0,ii 0],ii 5]
    |b::B=>.tuple [.agg [ii (Cc b.1 (B.map (fun y:Int×Int=>y.1))),ii (Cb b.2 (B.map (fun y:Int×Int=>y.2)))],ii 0])=.tuple [.agg [ii (Cc b.1 (B.map (fun y:Int×Int=>y.1))),ii (Cb b.2 (B.map (fun y:Int×Int=>y.2)))],ii 0]:=by rw[hUe]
   rw[hV];clear hV;have hUl1:U.length≠0:=by rw[hUe];simp
   have hd0:decide (U.length=0)=false:=Ei hUl1;have hU':((U.length:Int)==0)=false:=by rw[EF];omega
   rw[hd0];repeat with_reducible first|(fail_if_success refine am.seq (x:=.region 15 _ _) ?_);(fail_if_success show am _ (.region 15 _ _) _ _);refine nz aa ?_|apply ny;simp only[f72,hlt',hU',go_sem];rfl
   refine am.keep [7,6,4] (by simp only[go_sem];rfl) ?_
   have hk1:ad ((U.map (·.1)).map ii)=true:=ac _
   have hk2:ad ((U.map (·.2)).map ii)=true:=ac _
   refine am.freezeZ (tm':=[(7,.ms 4 U.length),(6,.sl .a ((U.map (·.1)).map ii)),(4,.bp 2 0)]) (sg':=[.var s.cells false,.var (ntC n) false,.var [ii 0,ii 0] false,.row false 3 1 ((U.map (·.1)).map ii) true,.row false 3 1 ((U.map (·.2)).map ii) false]) 6 3 rfl rfl (by rw[DX,DX]) hk1 rfl rfl ?_
   refine am.freezeZ (tm':=[(7,.sl .a ((U.map (·.2)).map ii)),(6,.sl .a ((U.map (·.1)).map ii)),(4,.bp 2 0)]) (sg':=[.var s.cells false,.var (ntC n) false,.var [ii 0,ii 0] false,.row false 3 1 ((U.map (·.1)).map ii) true,.row false 3 1 ((U.map (·.2)).map ii) true]) 7 4 rfl rfl (by rw[DX,DX]) hk2 rfl rfl ?_
   have hi1:aN (.sl .a ((U.map (·.1)).map ii))=some (b.1::B.map (·.1)):=by rw[hUe];exact aI rfl
   have hi2:aN (.sl .a ((U.map (·.2)).map ii))=some (b.2::B.map (·.2)):=by rw[hUe];exact aI rfl
   have hBl:(B.map (·.1)).length<=1000:=by rw[hUe]at hUl;rw[DX];simp only[Ek]at hUl;omega
   have hBl2:(B.map (·.2)).length<=1000:=by rw[hUe]at hUl;rw[DX];simp only[Ek]at hUl;omega
   generalize (U.map (·.1)).map ii=R1 at *
   generalize (U.map (·.2)).map ii=R2 at *
   generalize B.map (·.1)=B1 at *
   generalize B.map (·.2)=B2 at *
   repeat with_reducible first|refine nz zP ?_|apply ny;simp only[f72,cfYl,BJ,c137,c138,hi1,hi2,hk1,hk2,hBl,hBl2,go_sem];rfl
   exact⟨rfl,rfl,_,rfl,aq rfl⟩
def c72:Tb_
 |[v,w],sg=>match cS v,gJ w with
  |some s,some n=>some (.ret (Ck s n),sg)
  |_,_=>none
 |_,_=>none
theorem c72_ok:al prog 72 c72:=al.of0 (ent func72 rfl) fun args sg r sg' h=>by
 unfold c72 at h;split at h <;> try (cases h;done)
 split at h <;> cases h
 rename_i s n h1 h2;obtain⟨rfl,hok⟩:=aM h1;obtain rfl:=dz h2;exact⟨_,rfl,rfl,by rw[af,af,cm];rfl,Cd s hok n⟩
def cfYm:CallF:=aE (aE (aE (aE (aE cf0 31 c31) 63 c63) 64 c64) 65 c65) 139 c139
theorem AW:CallFOk prog cfYm:=ah (ah (ah (ah (ah aa CF) c63_ok) c64_ok) c65_ok) c139_ok
def begT(o:Option (Int×Int)):PV:=.tuple [.agg [ii (spO o).1,ii (spO o).2],.bool o.isSome]
theorem B4(s:Sty)(hok:s.ok=true)(hst:s.story=true)(n:Nt)(he:evB n=true):ab prog 73 [.agg s.cells,.agg (ntC n)] [] (.ret (begT (Bg n s.sc (aX s.e s.sc s.rl)))) []:=by
 refine ab.ofF hTT func73 rfl rfl ?_;have hds:=aS s hok;have hdn:gJ (.agg (ntC n))=some n:=fF n;have hc1:=ap s.sc;have hc2:=ao s.rz;have hS:StoryOk s.e s.sc s.rl:=fH.1 hst;have hlen:=co hS;have hvd:∀p∈aX s.e s.sc s.rl,Vd s n p:=fun p hp=>pY hok hst he hp
 have hV:Bg n s.sc (aX s.e s.sc s.rl)=(aX s.e s.sc s.rl).foldl (fun o c=>AY o (A8 n s.sc c)) none:=rfl
 generalize Bg n s.sc (aX s.e s.sc s.rl)=V at hV ⊢;generalize hps:aX s.e s.sc s.rl=ps at hlen hvd hV;obtain⟨zz,hzz⟩:∃zz,zz=(if decide (ps.length=0)=true then Z.n else Z.a):=⟨_,rfl⟩;have hzn:zz=.n->ps=[]:=fun e=>by
  rw[hzz]at e;split at e
  ·rename_i h
   exact Ew.1 (Eu h)
  ·cases e
 have hpv:kT ps=.sl zz (ps.map slx):=by rw[hzz];rfl
 have hls:bD 4 (ps.map slx)=true:=ae 4 _ (aC ps);have hcl:=aC ps;clear hzz;repeat with_reducible first|refine nz AW ?_|apply ny;simp only[f73,cfYm,c31,hds,hst,hps,hpv,hc1,hc2,hcl,go_sem];rfl
 refine am.keep [9,8,7,6,4,3,2] (by simp only[go_sem];rfl) ?_
 obtain⟨ST,hST⟩:∃ST:Nat->Option (Int×Int)->St,ST=fun i o=>⟨[(9,ii (i:Int)),(8,.bool o.isSome),(7,.bp 3 0),(6,.sl zz (ps.map slx)),(4,.bp 2 0),(3,.bp 1 0),(2,.bp 0 0)],65,[.var s.cells false,.var (ntC n) false,.var [ii 0,ii 0] false,.var [ii (spO o).1,ii (spO o).2] false]⟩:=⟨_,rfl⟩
 refine am.loop (fun i s'=>∃o,V=(ps.drop i).foldl (fun o c=>AY o (A8 n s.sc c)) o∧s'=ST i o) ps.length ⟨none,hV,by rw[hST];rfl⟩ ?_
 rintro i _ hi ⟨o,hVo,rfl⟩;by_cases hlt:i<ps.length
 ·obtain⟨p,hp⟩:=gex hlt
  have hp':(ps.map slx)[i]?=some (.sl .a (p.map ii)):=aw hp;have hv:=hvd p (DU hp);have hpd:=pd_to hv;have hdi:aN (.sl .a (p.map ii))=some p:=aI rfl;have hcp:=ac p;have hlt':(i:Int)<ps.length:=by omega
  have hzn':zz≠.n:=fun e=>by rw[hzn e]at hlt;simp at hlt
  have e4:=wIs i (by omega)
  rw[aP hp,EI]at hVo;rw[hST];dsimp only;cases hf:dT s.sc 0 p with
  |false =>
   have hb:A8 n s.sc p=none:=by unfold A8;rw[hf,D5 (by simp)]
   have hwo:AY o (A8 n s.sc p)=o:=by rw[hb];cases o <;> rfl
   rw[hwo]at hVo;repeat with_reducible first|refine nz AW ?_|apply ny;simp only[f73,cfYm,c63,c64,hds,hdi,hpd,hf,hp',hlt',hzn',e4,hc1,hc2,hcp,go_sem];rfl
   refine ak.t 4 [9,8,7,6,4,3,2] hlt (by simp only[aA,aF,an,az,bJ,hls,go_sem]) ⟨o,hVo,by first|(simp only[go_sem];first|done|rfl)|rfl⟩
  |true =>
   cases ho:un (scn s.sc p)with
   |false =>
    have hb:A8 n s.sc p=none:=by unfold A8;rw[ho,D5 (by simp)]
    have hwo:AY o (A8 n s.sc p)=o:=by rw[hb];cases o <;> rfl
    rw[hwo]at hVo;repeat with_reducible first|refine nz AW ?_|apply ny;simp only[f73,cfYm,c63,c64,hds,hdi,hpd,hf,ho,hp',hlt',hzn',e4,hc1,hc2,hcp,go_sem];rfl
    refine ak.t 4 [9,8,7,6,4,3,2] hlt (by simp only[aA,aF,an,az,bJ,hls,go_sem]) ⟨o,hVo,by first|(simp only[go_sem];first|done|rfl)|rfl⟩
   |true =>
    have hb:A8 n s.sc p=zM n (scn s.sc p):=by unfold A8;rw[DZ ⟨hf,ho⟩]
    have hpl:du n ((scn s.sc p).map nof)=true:=by rw[oN,hv.plan,ho]
    have hsn:=Bh n (scn s.sc p);have hdp:=kr n (scn s.sc p);have hpV:pM n (scn s.sc p)=.agg (plC n (if decide ((scn s.sc p).length=0)=true then .n else .a) (scn s.sc p)):=rfl;rw[hpV]at hdp;have hcc:=ay (scn s.sc p);generalize (if decide ((scn s.sc p).length=0)=true then Z.n else Z.a)=zL at hdp hpV;cases hs:zM n (scn s.sc p)with
    |none =>
     have hwo:AY o (A8 n s.sc p)=o:=by rw[hb,hs];cases o <;> rfl
     rw[hwo]at hVo;rw[hs]at hsn;have hs0:spO none=(0,0):=rfl;repeat with_reducible first|refine nz AW ?_|apply ny;simp only[f73,cfYm,c63,c64,c65,c139,hds,hdn,hdi,hpd,hf,ho,hpV,hdp,hpl,hsn,hs0,FN,hp',hlt',hzn',e4,hc1,hc2,hcp,hcc,go_sem];rfl
     refine ak.t 4 [9,8,7,6,4,3,2] hlt (by simp only[aA,aF,an,az,bJ,hls,go_sem]) ⟨o,hVo,by first|(simp only[go_sem];first|done|rfl)|rfl⟩
    |some x =>
     obtain⟨x1,x2⟩:=x;rw[hs]at hsn;have hs0:spO (some (x1,x2))=(x1,x2):=rfl;cases o with
     |none =>
      have hwo:AY none (A8 n s.sc p)=some (x1,x2):=by rw[hb,hs];rfl
      rw[hwo]at hVo;have hm1:min x1 x1=x1:=Int.min_self _;have hm2:max x2 x2=x2:=Int.max_self _;have hm3:min x2 x2=x2:=Int.min_self _;repeat with_reducible first|refine nz AW ?_|apply ny;simp only[f73,cfYm,c63,c64,c65,c139,hds,hdn,hdi,hpd,hf,ho,hpV,hdp,hpl,hsn,hs0,FN,Gv,mnI,mxI,hm1,hm2,hm3,hp',hlt',hzn',e4,hc1,hc2,hcp,hcc,go_sem];rfl
      refine ak.t 4 [9,8,7,6,4,3,2] hlt (by simp only[aA,aF,an,az,bJ,hls,go_sem]) ⟨some (x1,x2),hVo,by first|(simp only[hs0,go_sem];first|done|rfl)|rfl⟩
     |some y =>
      obtain⟨y1,y2⟩:=y;have hwo:AY (some (y1,y2)) (A8 n s.sc p)=some (min y1 x1,max y2 x2):=by rw[hb,hs];rfl
      rw[hwo]at hVo;have hs1:spO (some (y1,y2))=(y1,y2):=rfl;repeat with_reducible first|refine nz AW ?_|apply ny;simp only[f73,cfYm,c63,c64,c65,c139,hds,hdn,hdi,hpd,hf,ho,hpV,hdp,hpl,hsn,hs0,hs1,FN,Gv,mnI,mxI,hp',hlt',hzn',e4,hc1,hc2,hcp,hcc,go_sem];rfl
      refine ak.t 4 [9,8,7,6,4,3,2] hlt (by simp only[aA,aF,an,az,bJ,hls,go_sem]) ⟨some (min y1 x1,max y2 x2),hVo,by rw[show spO (some (min y1 x1,max y2 x2))=(min y1 x1,max y2 x2)from rfl];first|(simp only[go_sem];first|done|rfl)|rfl⟩
 ·obtain rfl:i=ps.length:=by omega
  rw[EL]at hVo;have hVo:V=o:=hVo;subst hVo;have hlt':¬(ps.length:Int)<ps.length:=by omega
  rw[hST];dsimp only;repeat with_reducible first|refine nz aa ?_|apply ny;simp only[f73,hlt',go_sem];rfl
  exact⟨rfl,rfl,_,rfl,aq rfl⟩
def c73:Tb_
 |[v,w],sg=>match cS v,gJ w with
  |some s,some n=>if s.story=true∧evB n=true then some (.ret (begT (Bg n s.sc (aX s.e s.sc s.rl))),sg)else none
  |_,_=>none
 |_,_=>none
theorem c73_ok:al prog 73 c73:=al.of0 (ent func73 rfl) fun args sg r sg' h=>by
 unfold c73 at h;split at h <;> try (cases h;done)
 split at h <;> try (cases h;done)
 rename_i s n h1 h2;split at h <;> cases h
 rename_i hc;obtain⟨rfl,hok⟩:=aM h1;obtain rfl:=dz h2;exact⟨_,rfl,rfl,by rw[af,af,cm];rfl,B4 s hok hc.1 n hc.2⟩
end Go.Pv
