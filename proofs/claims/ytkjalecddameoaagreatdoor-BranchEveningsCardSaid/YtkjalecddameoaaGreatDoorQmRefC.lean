import Derived.Test.YtkjalecddameoaaGreatDoorQmRefB
set_option linter.all false
open Go.Proofs.Tryz
namespace Go.Pv
open Go Go.RowKit Go.Proofs
set_option maxRecDepth 200000
set_option maxHeartbeats 8000000
def c140:Tb_
 |[v],sg=>match eS v with
  |some (_,_,l)=>if l.length<=10 then some (.ret (.sl (if decide ((nO l).length=0)=true then .n else .a) ((nO l).map slc)),sg)else none
  |none=>none
 |_,_=>none
theorem c140_ok:al prog 140 c140:=al.of0 (ent func140 rfl) fun args sg r sg' h=>by
 unfold c140 at h;split at h <;> try (cases h;done)
 split at h <;> try (cases h;done)
 rename_i n z l h1;split at h <;> cases h
 rename_i hc;have hl:=eV h1;obtain⟨rfl,hz⟩:=b8 h1;exact⟨_,rfl,rfl,by rw[af,fi];rfl,Aw n z l hz hl hc⟩
def cfE5:CallF:=aE (aE cf0 140 c140) 141 Ca
theorem pX:CallFOk prog cfE5:=ah (ah aa c140_ok) BA
theorem canL_ref{n:Nt}{l:List Sn}(h:PlanOk n l):qf n l=(nO l).filter fun c=>decide (cR n l c≠[]):=by
 unfold qf;exact List.filter_congr fun c _=>zJ h.win h.fit c
theorem ve{l:List Sn}(hl:l.length<=10):(nO l).length<=20000:=by
 have key:∀q:List Nat,(q.flatMap (choK l)).length<=1024*q.length:=by
  intro q;induction q with
  |nil=>exact Ee _
  |cons k q ih =>
   rw[E2,Ea,Ek];have h1:=iG l.length k 0;have h2:2 ^ (l.length-0)<=2 ^ 10:=FA (by decide) (by omega)
   have h3:(choK l k).length<=(c7 l.length k 0).length:=Fh ..;omega
 have:=key ((List.range (l.length+1)).reverse)
 rw[xF];rw[List.length_reverse,List.length_range]at this;omega
theorem vK(n:Nt)(z:Z)(l:List Sn)(hz:z=.n->l=[])(hnof:l.map nof=l)(hP:PlanOk n l):ab prog 74 [.agg (plC n z l)] [] (.ret (.sl (if decide ((qf n l).length=0)=true then .n else .a) ((qf n l).map slc))) []:=by
 refine ab.ofF hTT func74 rfl rfl ?_;have hdn:=dt (n:=n) hz hnof;have hc2:=ay l;have hl10:=hP.l10;have hl11:l.length<=11:=by omega
 have hnt:=hP.nt;have hwd:=hP.wd;have hfc:∀c∈nO l,fitB l c=true:=fun c hc=>hP.fitC (tO.1 hc)
 have hcl:=c9 (nO l);have hln:=ve hl10;rw[canL_ref hP];generalize hCe:nO l=C at hfc hcl hln ⊢;obtain⟨zz,hzz⟩:∃zz,zz=(if C.length=0 then Z.n else Z.a):=⟨_,rfl⟩;have hzn:zz=.n->C=[]:=fun e=>by
  rw[hzz]at e;split at e
  ·rename_i h
   exact Ew.1 h
  ·cases e
 have hc4:ab prog 140 [.agg (plC n z l)] [] (.ret (.sl zz (C.map slc))) []:=by
  have:=Aw n z l hz hnof hl10
  rw[hCe]at this;simp only[Eo]at this;rw[hzz];exact this
 clear hzz hCe;have hltb:bD 0 [PV.agg (plC n z l)]=true:=ae 0 _ (by simp[ad,PV.closed,hc2])
 repeat with_reducible first|refine nz (aj aa (ent func140 rfl) hc4 hltb) ?_|apply ny;simp only[f74,eA,hc2,go_sem];rfl
 refine am.keep [5,4,3,1] (by simp only[go_sem];rfl) ?_
 refine am.nilRow 4 26 1 (by simp only[go_sem]) (by simp only[go_sem];rfl) (by simp only[go_sem];rfl) ?_
 refine am.loop (fun j s'=>∃P:List (List Nat),C.filter (fun c=>decide (cR n l c≠[]))=P++(C.drop j).filter (fun c=>decide (cR n l c≠[]))∧P.length<=j∧s'=⟨[(5,ii (j:Int)),(4,.ms 1 P.length),(3,.sl zz (C.map slc)),(1,.bp 0 0)],28,[.var (plC n z l) false,.row (decide (P.length=0)) 26 1 (P.map slc) false]⟩) C.length ⟨[],rfl,Ee _,rfl⟩ ?_
 rintro j _ hj ⟨P,hP,hPl,rfl⟩;by_cases hjl:j<C.length
 ·obtain⟨c,hc⟩:=gex hjl
  have hc':(C.map slc)[j]?=some (slc c):=aw hc;have hjl':(j:Int)<C.length:=by omega
  have hzn':zz≠.n:=fun e=>by rw[hzn e]at hjl;simp at hjl
  have hdc:=qt c;have hfit:=hfc c (DU hc);have e5:=wIs j (by omega)
  have m1:P.length+1<=maxLen:=by unfold maxLen;omega
  have m2:(P.length+1)*24<=140737488355328:=by omega
  have hd1:decide (P.length+1=0)=false:=by simp
  have hsc:slc c=.sl (if c=[]then .n else .a) (nn c):=rfl;have hcc2:=aO c;rw[aP hc,EZ]at hP;rw[hsc]at hc' hdc;generalize hz2:(if c=[]then Z.n else Z.a)=z2 at hc' hdc hsc;cases hch:decide (cR n l c≠[])
  ·rw[hch]at hP
   simp only[E8,Gt]at hP;repeat with_reducible first|refine nz pX ?_|apply ny;simp only[f74,cfE5,Ca,hdn,hdc,hc',hjl',hzn',hch,hfit,hl11,hnt,hwd,hc2,hcc2,e5,go_sem];rfl
   refine ak.t 2 [5,4,3,1] hjl (by simp only[aK,an,gi,go_sem]) ⟨P,hP,by omega,by first|(simp only[go_sem];first|done|rfl)|rfl⟩
  ·rw[hch]at hP
   simp only[Fy]at hP;have hP:C.filter (fun c=>decide (cR n l c≠[]))=(P++[c])++(C.drop (j+1)).filter (fun c=>decide (cR n l c≠[])):=by rw[hP];simp
   repeat with_reducible first|refine nz pX ?_|apply ny;simp only[f74,cfE5,Ca,hdn,hdc,hc',hjl',hzn',hch,hfit,hl11,hnt,hwd,hc2,hcc2,e5,m1,m2,go_sem];rfl
   refine ak.t 2 [5,4,3,1] hjl (by simp only[aK,an,gi,cb,bJ,go_sem]) ⟨P++[c],hP,by simp;omega,by rw[Ec,Ea];first|(simp only[hd1,hsc,go_sem];first|done|rfl)|rfl⟩
 ·obtain rfl:j=C.length:=by omega
  rw[EL]at hP;have hP:C.filter (fun c=>decide (cR n l c≠[]))=P:=by rw[hP];exact Er _
  rw[hP];have hjl':¬(C.length:Int)<C.length:=by omega
  repeat with_reducible first|refine nz aa ?_|apply ny;simp only[f74,hjl',go_sem];rfl
  exact⟨rfl,rfl,_,rfl,leave_row (id:=1) rfl (c9 _) (DX ..).symm⟩
theorem ro(n:Nt)(z:Z)(l:List Sn)(hz:z=.n->l=[])(hnof:l.map nof=l)(hP:PlanOk n l):ab prog 160 [.agg (plC n z l)] [] (.ret (.bool (iL n l))) []:=by
 refine ab.of0 hTT func160 rfl rfl ?_;have hc2:=ay l;have h74:=vK n z l hz hnof hP;have e:iL n l=decide ((0:Int)<((qf n l).length:Nat)):=by
  unfold iL;rw[Fa];constructor
  ·intro h
   have:(qf n l).length≠0:=fun e=>h (Ew.1 e)
   omega
  ·intro h e
   rw[e]at h;simp at h
 rw[e];generalize qf n l=C at h74;generalize (if decide (C.length=0)=true then Z.n else Z.a)=zz at h74;have hcC:=c9 C;have hltb:bD 0 [PV.agg (plC n z l)]=true:=ae 0 _ (by simp[ad,PV.closed,hc2])
 repeat with_reducible first|refine nz (aj aa (ent func74 rfl) h74 hltb) ?_|apply ny;simp only[f160,eA,hc2,EW,go_sem];rfl
 exact⟨rfl,rfl,_,rfl,rfl⟩
def c160:Tb_
 |[v],sg=>match eS v with
  |some (n,_,l)=>if du n l=true then some (.ret (.bool (iL n l)),sg)else none
  |none=>none
 |_,_=>none
theorem oR:al prog 160 c160:=al.of0 (ent func160 rfl) fun args sg r sg' h=>by
 unfold c160 at h;split at h <;> try (cases h;done)
 split at h <;> try (cases h;done)
 rename_i n z l h1;split at h <;> cases h
 rename_i hc;have hl:=eV h1;obtain⟨rfl,hz⟩:=b8 h1;exact⟨_,rfl,rfl,by rw[af,fi];rfl,ro n z l hz hl (xn hc)⟩
theorem qO(l:List Sn)(i:Nat)(x:Sn):(l.map cH).set i (cH x)=(l.set i x).map cH:=by rw[Ga]
theorem CH{l:List Sn}{i:Nat}{x:Sn}(h:l[i]?=some x)(k:Int):kQ l i k=l.set i { x with least:=k,most:=k }:=by unfold kQ;rw[h]
theorem BP{l:List Sn}(h:l.map nof=l)(i:Nat)(k:Int):(kQ l i k).map nof=kQ l i k:=by
 unfold kQ;split
 ·next x hx =>
  rw[Ga,h];have:nof x=x:=by
   have h2:(l.map nof)[i]?=some (nof x):=by rw[Eh,hx];rfl
   rw[h,hx]at h2;exact(Option.some.inj h2).symm
  congr 1
  show nof { x with least:=k,most:=k }=_
  unfold nof at this ⊢;rw[Sn.mk.injEq];have hf:=congrArg Sn.formula this;exact⟨rfl,rfl,rfl,rfl,hf⟩
 ·exact h
theorem pH{sg:List Box}{id:Nat}{z:Bool}{e:TypeId}{k:Nat}{es:List PV}{frz:Bool}(h:sg[id]?=some (.row z e k es frz))(hc:ad es=true){m:Nat}(hm:m=es.length)(a0 a1 a2 a3 a4 a5 a6:Int):
 bR 0 (.agg [ii a0,ii a1,ii a2,ii a3,ii a4,ii a5,ii a6,.ms id m]) sg=(.agg [ii a0,ii a1,ii a2,ii a3,ii a4,ii a5,ii a6,.sl (if z then .n else .a) es],[]) :=
 A6 (by
  rw[tY (n:=7) (by simp[ad,PV.closed])]
  simp only[cO,aZ (n:=6) (v:=ii a0) rfl,aZ (n:=6) (v:=ii a1) rfl,aZ (n:=6) (v:=ii a2) rfl,aZ (n:=6) (v:=ii a3) rfl,aZ (n:=6) (v:=ii a4) rfl,aZ (n:=6) (v:=ii a5) rfl,aZ (n:=6) (v:=ii a6) rfl,frzX_row (n:=5) h hc hm]) (by simp[PV.closed,ad,hc])
theorem ns_all(l:List Sn):(l.map cH).all (fun y=>y.cells.length==5)=true:=by rw[FS];exact D7.2 fun _ _=>rfl
theorem Ce(n:Nt)(z:Z)(l:List Sn)(i:Nat)(k:Int)(hz:z=.n->l=[])(hi:i<l.length)(hl:l.length<=1000):ab prog 142 [.agg (plC n z l),ii (i:Int),ii k] [] (.ret (.agg (plC n .a (kQ l i k)))) []:=by
 refine ab.ofF hTT func142 rfl rfl ?_;have hne:(l.map cH).isEmpty=false:=by
  cases l with
  |nil=>simp at hi
  |cons x l=>rfl
 have hz':z≠.n:=fun e=>by rw[hz e]at hi;simp at hi
 have hall:=ns_all l;simp only[PV.cells]at hall;have q1:l.length*40<=140737488355328:=by omega
 have q2:l.length<=maxLen:=by unfold maxLen;omega
 have hi':(i:Int)<l.length:=by omega
 obtain⟨x,hx⟩:=gex hi;have hx':=cU hx;have hcl:=ay l;rw[CH hx];have hs1:(l.map cH).set i (.agg [ii x.part,ii k,ii x.most,.bool x.loose,ii (-1)])=(l.set i { x with least:=k }).map cH:=qO l i { x with least:=k }
 have hs2:((l.set i { x with least:=k }).map cH).set i (.agg [ii x.part,ii k,ii k,.bool x.loose,ii (-1)])=(l.set i { x with least:=k,most:=k }).map cH:=by
  rw[show(PV.agg [ii x.part,ii k,ii k,.bool x.loose,ii (-1)])=cH { x with least:=k,most:=k }from rfl,qO,List.set_set]
 have hg2:((l.set i { x with least:=k }).map cH)[i]?=some (.agg [ii x.part,ii k,ii x.most,.bool x.loose,ii (-1)]):=by
  rw[Eh,D4 hi];rfl
 repeat with_reducible first|refine nz aa ?_|apply ny;simp only[f142,hne,hz',hall,q1,q2,hi',hx',d9,hs1,hs2,hg2,hcl,go_sem];rfl
 refine⟨rfl,rfl,_,rfl,?_⟩;exact pH (id:=2) (z:=false) (e:=151) (k:=5) (frz:=false) (es:=(l.set i { x with least:=k,most:=k }).map cH) rfl (ay _) (by rw[DX,Fr]) _ _ _ _ _ _ _
def c142:Tb_
 |[v,w,.int .i64 k],sg=>match eS v,decN w with
  |some (n,_,l),some i=>if i<l.length∧l.length<=1000 then some (.ret (.agg (plC n .a (kQ l i k))),sg)else none
  |_,_=>none
 |_,_=>none
theorem c142_ok:al prog 142 c142:=al.of0 (ent func142 rfl) fun args sg r sg' h=>by
 unfold c142 at h;split at h <;> try (cases h;done)
 split at h <;> try (cases h;done)
 rename_i n z l i h1 h2;split at h <;> cases h
 rename_i hc;obtain⟨rfl,hz⟩:=b8 h1;obtain rfl:=pJ _ _ h2;exact⟨_,rfl,rfl,by rw[af,fi];rfl,Ce n z l i _ hz hc.1 hc.2⟩
structure SmF(l:List Sn):Prop where
 sm:∀x∈l,0<=x.least∧x.least<=x.most∧x.most<=1000
theorem SmF.fit{l:List Sn}(h:SmF l):FitL l:=fun x hx=>by have:=h.sm x hx;omega
theorem SmF.fix{l:List Sn}(h:SmF l)(i:Nat){k:Int}(h0:0<=k)(h1:k<=1000):SmF (kQ l i k):=⟨fun y hy=>by
 unfold kQ at hy;split at hy
 ·next x hx =>
  rcases FO hy with hy|rfl
  ·exact h.sm y hy
  ·exact⟨h0,EN _,h1⟩
 ·exact h.sm y hy⟩
theorem SmF.fitB{l:List Sn}(h:SmF l){c:List Nat}(hc:∀x∈c,x<l.length)(hn:c.length<=1000):fitB l c=true:=dL.2 ⟨fun x hx=>by have:=h.sm x hx;omega,hc,hn⟩
theorem BV{n:Nt}{l:List Sn}(h:du n l=true):SmF l:=by
 have hs:kK 0 l=true:=by unfold du at h;simp only[D3]at h;exact h.1.2
 exact⟨fun x hx=>by have:=sH hs x hx;omega⟩
theorem kl(n:Nt)(l:List Sn)(c:List Nat)(i m:Nat)(k:Int):j7 n l c i (m+1) k=if lE n (kQ l i k) c=true then k else j7 n l c i m (k+1):=rfl
theorem qV(n:Nt)(l:List Sn)(c:List Nat)(i:Nat):∀m k,k<=j7 n l c i m k∧j7 n l c i m k<=k+m
 |0,k=>⟨EN _,by show k<=_;omega⟩
 |m+1,k=>by
  rw[kl];split
  ·omega
  ·have:=qV n l c i m (k+1)
   omega
def cfF5:CallF:=aE (aE cf0 142 c142) 141 Ca
theorem A7:CallFOk prog cfF5:=ah (ah aa c142_ok) BA
theorem First_75(n:Nt)(z zs:Z)(l:List Sn)(c:List Nat)(hz:z=.n->l=[])(hnof:l.map nof=l)(hzs:zs=.n->c=[])(hw:WinOk n)(hnt:ntB n=true)(hwd:wdB n=true)(hsm:SmF l)(hc:∀x∈c,x<l.length)(hcn:c.length<=1000)(hl:l.length<=11):
 ab prog 75 [.agg (plC n z l),.sl zs (nn c)] [] (.ret (.sl (if decide (c.length=0)=true then .n else .a) ((re n c l c).map ii))) []:=by
 refine ab.ofF hTT func75 rfl rfl ?_;have hdc:=dm hzs;have hcc:=aO c;repeat with_reducible first|refine nz aa ?_|apply ny;simp only[f75,go_sem];rfl
 refine am.keep [6,5,2,1] (by simp only[go_sem];rfl) ?_
 refine am.nilRow 5 3 1 (by simp only[go_sem]) (by simp only[go_sem];rfl) (by simp only[go_sem];rfl) ?_
 generalize hT:re n c l c=T;refine am.loop (fun i s'=>∃(z':Z) (l':List Sn) (O:List Int),T=O++re n c l' (c.drop i)∧O.length=i∧(z'=.n->l'=[])∧l'.map nof=l'∧SmF l'∧l'.length=l.length∧s'=⟨[(6,ii (i:Int)),(5,.ms 1 i),(2,.bp 0 0),(1,.sl zs (nn c))],60,[.var (plC n z' l') false,.row (decide (i=0)) 3 1 (O.map ii) false]⟩) c.length ⟨z,l,[],hT.symm,rfl,hz,hnof,hsm,rfl,rfl⟩ ?_
 rintro i _ hi ⟨z',l',O,hO,hOl,hz1,hn1,hs1,hl1,rfl⟩;clear hT;by_cases hlt:i<c.length
 ·obtain⟨x,hx⟩:=gex hlt
  have hx':=mz hx;have hxl:x<l'.length:=by rw[hl1];exact hc x (DU hx)
  obtain⟨y,hy⟩:=gex hxl;have hy':=cU hy;have hxl':(x:Int)<(l'.length:Nat):=by omega
  have hlt':(i:Int)<c.length:=by omega
  have hzs':zs≠.n:=fun e=>by rw[hzs e]at hlt;simp at hlt
  have hz':z'≠.n:=fun e=>by have:l'=[]:=hz1 e;rw[this]at hxl;simp at hxl
  have e4:=wIs i (by omega)
  have l1:i+1<=maxLen:=by unfold maxLen;omega
  have l2:(i+1)*8<=140737488355328:=by omega
  have hd1:decide (i+1=0)=false:=by simp
  have hys:=hs1.sm y (DU hy);have hdn:=dt (n:=n) hz1 hn1;have hcl:=ay l';have hdx:=Bi x;have hl1000:l'.length<=1000:=by omega
  have hlo:Bf n l' c x=j7 n l' c x (y.most-y.least).toNat y.least:=by unfold Bf;rw[mn hy,mn hy]
  rw[aP hx,re,hlo]at hO;have hrg:=qV n l' c x (y.most-y.least).toNat y.least;repeat with_reducible first|(fail_if_success refine am.seq (x:=.region 6 _ _) ?_);(fail_if_success show am _ (.region 6 _ _) _ _);refine nz aa ?_|apply ny;simp only[f75,hx',hxl',hy',hlt',hzs',hz',cz,go_sem];rfl
  refine am.keep [7,6,5,2,1] (by simp only[go_sem];rfl) ?_
  refine am.loop (fun t s'=>j7 n l' c x (y.most-y.least).toNat y.least=j7 n l' c x ((y.most-y.least).toNat-t) (y.least+(t:Int))∧s'=⟨[(7,ii (y.least+(t:Int))),(6,ii (i:Int)),(5,.ms 1 i),(2,.bp 0 0),(1,.sl zs (nn c))],60,[.var (plC n z' l') false,.row (decide (i=0)) 3 1 (O.map ii) false]⟩) (y.most-y.least).toNat ⟨by rw[Gi,show y.least+((0:Nat):Int)=y.least by omega],by first|(simp only[Int.natCast_zero,Gw,go_sem];first|done|rfl)|rfl⟩ ?_
  rintro t _ ht ⟨hlt1,rfl⟩;obtain⟨v,hv⟩:∃v,v=y.least+(t:Int):=⟨_,rfl⟩;rw[←hv]at hlt1 ⊢;have hv0:0<=v:=by omega
  have hv1:v<=1000:=by omega
  have hF:=hs1.fix x hv0 hv1;have hFn:=BP hn1 x v;have hFl:=Cs l' x v;have hcan:=zJ hw hF.fit c;have hFd:=dt (n:=n) (z:=.a) (fun e=>by cases e) hFn
  have hFl11:(kQ l' x v).length<=11:=by omega
  have hFb:fitB (kQ l' x v) c=true:=hF.fitB (fun q hq=>by rw[hFl,hl1];exact hc q hq) hcn
  have hFc:=ay (kQ l' x v);have hnext:t<(y.most-y.least).toNat->lE n (kQ l' x v) c=false->j7 n l' c x (y.most-y.least).toNat y.least=j7 n l' c x ((y.most-y.least).toNat-(t+1)) (v+1):=fun hm hcb=>by
   rw[hlt1,show(y.most-y.least).toNat-t=((y.most-y.least).toNat-(t+1))+1 by omega,kl,hcb,D5 (by simp)]
  have hstop:(t<(y.most-y.least).toNat->lE n (kQ l' x v) c=true)->j7 n l' c x (y.most-y.least).toNat y.least=v:=fun hh=>by
   by_cases hm:t<(y.most-y.least).toNat
   ·rw[hlt1,show(y.most-y.least).toNat-t=((y.most-y.least).toNat-(t+1))+1 by omega,kl,hh hm,DZ rfl]
   ·rw[hlt1,show(y.most-y.least).toNat-t=0 by omega];rfl
  have e5:IntKind.i64.wrap (v+1)=v+1:=ai (by omega) (by omega)
  have hend:j7 n l' c x (y.most-y.least).toNat y.least=v->T=(O++[v])++re n c (kQ l' x v) (c.drop (i+1)):=fun h=>by rw[hO,h];simp
  clear hO hlt1;by_cases hvm:v<y.most
  ·have htm:t<(y.most-y.least).toNat:=by omega
   cases hcb:lE n (kQ l' x v) c
   ·have hnx:=hnext htm hcb
    rw[hcb]at hcan;have hch:=hcan.symm;clear hcan;generalize hFF:kQ l' x v=F at hF hFn hFl hch hFd hFl11 hFb hFc;have hvt:v+1=y.least+((t+1:Nat):Int):=by omega
    repeat with_reducible first|refine nz A7 ?_|apply ny;simp only[f75,cfF5,c142,Ca,hx',hxl',hxl,hy',hlt',hzs',hz',hvm,hdn,hdx,hdc,hl1000,hFd,hFb,hFl11,hFc,hcl,hcc,hnt,hwd,hch,hFF,e5,cz,go_sem];rfl
    refine ak.t 2 [7,6,5,2,1] htm (by simp only[aK,an,cb,aF,go_sem]) ⟨by rw[←hvt];exact hnx,by rw[←hvt];first|(simp only[go_sem];first|done|rfl)|rfl⟩
   ·have hT:=hend (hstop fun _=>hcb)
    rw[hcb]at hcan;have hch:=hcan.symm;clear hcan;generalize hFF:kQ l' x v=F at hF hFn hFl hch hFd hFl11 hFb hFc hT;repeat with_reducible first|refine nz A7 ?_|apply ny;simp only[f75,cfF5,c142,Ca,hx',hxl',hxl,hy',hlt',hzs',hz',hvm,hdn,hdx,hdc,hl1000,hFd,hFb,hFl11,hFc,hcl,hcc,hnt,hwd,hch,hFF,e4,l1,l2,hOl,cz,go_sem];rfl
    refine ak.t 2 [6,5,2,1] hlt (by simp only[aK,an,cb,aF,bJ,go_sem]) ⟨.a,F,O++[v],hT,by simp[hOl],(fun e=>by cases e),hFn,hF,by omega,by rw[Ec];first|(simp only[hd1,go_sem];first|done|rfl)|rfl⟩
  ·have hT:=hend (hstop fun hm=>by omega)
   generalize hFF:kQ l' x v=F at hF hFn hFl hFd hFl11 hFb hFc hT;repeat with_reducible first|refine nz A7 ?_|apply ny;simp only[f75,cfF5,c142,Ca,hx',hxl',hxl,hy',hlt',hzs',hz',hvm,hdn,hdx,hdc,hl1000,hFd,hFc,hFF,hcl,hcc,e4,l1,l2,hOl,cz,go_sem];rfl
   refine ak.t 2 [6,5,2,1] hlt (by simp only[aK,an,cb,aF,bJ,go_sem]) ⟨.a,F,O++[v],hT,by simp[hOl],(fun e=>by cases e),hFn,hF,by omega,by rw[Ec];first|(simp only[hd1,go_sem];first|done|rfl)|rfl⟩
 ·obtain rfl:i=c.length:=by omega
  rw[EL]at hO;have hO:T=O:=by rw[hO];exact Er _
  subst hO;have hlt':¬(c.length:Int)<c.length:=by omega
  repeat with_reducible first|refine nz aa ?_|apply ny;simp only[f75,hlt',cz,go_sem];rfl
  exact⟨rfl,rfl,_,rfl,leave_row (id:=1) rfl (ac _) (by rw[DX,hOl])⟩
theorem With_185(n:Nt)(z:Z)(l:List Sn)(b:Int):ab prog 185 [.agg (plC n z l),ii b] [] (.ret (.agg (plC (n.at b) z l))) []:=by
 refine ab.ofF hTT func185 rfl rfl ?_;repeat with_reducible first|refine nz aa ?_|apply ny;simp only[f185,go_sem];rfl
 exact⟨rfl,rfl,_,rfl,aq (dY _ _ _)⟩
def c185:Tb_
 |[v,.int .i64 b],sg=>match eS v with
  |some (n,z,l)=>some (.ret (.agg (plC (n.at b) z l)),sg)
  |none=>none
 |_,_=>none
theorem c185_ok:al prog 185 c185:=al.of0 (ent func185 rfl) fun args sg r sg' h=>by
 unfold c185 at h;split at h <;> try (cases h;done)
 split at h <;> cases h
 rename_i n z l h1;obtain⟨rfl,hz⟩:=b8 h1;exact⟨_,rfl,rfl,by rw[af,fi];rfl,With_185 n z l _⟩
def Nt.win(n:Nt)(a b:Int):Nt:={ n with w0:=(a,b) }
theorem B7(n:Nt)(z:Z)(l:List Sn)(a b:Int):ab prog 186 [.agg (plC n z l),ii 0,.agg [ii a,ii b]] [] (.ret (.agg (plC (n.win a b) z l))) []:=by
 refine ab.ofF hTT func186 rfl rfl ?_;have h:((0:Int)==2)=false:=rfl;repeat with_reducible first|refine nz aa ?_|apply ny;simp only[f186,h,go_sem];rfl
 exact⟨rfl,rfl,_,rfl,aq (dY (n.win a b) z l)⟩
def c186:Tb_
 |[v,.int .i64 k,.agg [.int .i64 a,.int .i64 b]],sg=>match eS v with
  |some (n,z,l)=>if k=0 then some (.ret (.agg (plC (n.win a b) z l)),sg)else none
  |none=>none
 |_,_=>none
theorem c186_ok:al prog 186 c186:=al.of0 (ent func186 rfl) fun args sg r sg' h=>by
 unfold c186 at h;split at h <;> try (cases h;done)
 split at h <;> try (cases h;done)
 rename_i n z l h1;split at h <;> cases h
 rename_i hk;subst hk;obtain⟨rfl,hz⟩:=b8 h1;exact⟨_,rfl,rfl,by rw[af,fi];rfl,B7 n z l _ _⟩
def A9(o:Int×Int)(lo hi:Int)(met:Bool):Int×Int:=if met=true then(min o.1 lo,max o.2 hi)else(lo,hi)
theorem join_187(o:Int×Int)(lo hi:Int)(met:Bool):ab prog 187 [.agg [ii o.1,ii o.2],ii lo,ii hi,.bool met] [] (.ret (.agg [ii (A9 o lo hi met).1,ii (A9 o lo hi met).2])) []:=by
 refine ab.ofF hTT func187 rfl rfl ?_;cases met
 ·repeat with_reducible first|refine nz aa ?_|apply ny;simp only[f187,go_sem];rfl
  exact⟨rfl,rfl,_,rfl,aq rfl⟩
 ·repeat with_reducible first|refine nz aa ?_|apply ny;simp only[f187,mxI,mnI,go_sem];rfl
  exact⟨rfl,rfl,_,rfl,aq rfl⟩
def c187:Tb_
 |[.agg [.int .i64 a,.int .i64 b],.int .i64 lo,.int .i64 hi,.bool met],sg=>some (.ret (.agg [ii (A9 (a,b) lo hi met).1,ii (A9 (a,b) lo hi met).2]),sg)
 |_,_=>none
theorem c187_ok:al prog 187 c187:=al.of0 (ent func187 rfl) fun args sg r sg' h=>by
 unfold c187 at h;split at h <;> cases h
 exact⟨_,rfl,rfl,rfl,join_187 (_,_) _ _ _⟩
def spO(o:Option (Int×Int)):Int×Int:=match o with
 |none=>(0,0)
 |some p=>p
theorem Bt(o:Option (Int×Int))(p:Int×Int):AY o (some p)=some (A9 (spO o) p.1 p.2 o.isSome):=by
 cases o <;> rfl
def B3(n:Nt)(l:List Sn)(o:Option (Int×Int))(c:List Nat):Option (Int×Int):=(qe n.w0).foldl (fun o a=>AY o (B6 n l c a)) o
def A0(n:Nt)(l:List Sn):Option (Int×Int):=(nO l).foldl (B3 n l) none
theorem B5{n:Nt}{l:List Sn}(hn:WinOk n)(hl:FitL l):A0 n l=zM n l:=by
 have e:A0 n l=BD (fun ca:List Nat×Int=>B6 n l ca.1 ca.2) ((nO l).flatMap fun c=>(qe n.w0).map fun a=>(c,a)):=by
  unfold A0 BD;rw[List.foldl_flatMap]
  congr 1
  funext o c
  rw[List.foldl_map];rfl
 rw[e];refine BE (S:=FeasP n l) (A3 (fun b=>?_) (Bn (S:=fun (ca:List Nat×Int) b=>(0<=b∧b<=900)∧∃y z,Bw (n.at b) l ca.1 ca.2 y z) _ fun ca hca=>?_)) (BG hn hl)
 ·unfold FeasP Feas
  constructor
  ·rintro⟨ca,hca,hb,y,z,h⟩
   obtain⟨c,hc,hm⟩:=Es.1 hca;obtain⟨a,_,rfl⟩:=Ex.1 hm;exact⟨c,hc,hb,a,y,z,h⟩
  ·rintro⟨c,hc,hb,x,y,z,h⟩
   exact⟨(c,x),Es.2 ⟨c,hc,Ex.2 ⟨x,iJ.2 h.1,rfl⟩⟩,hb,y,z,h⟩
 ·obtain⟨c,hc,hm⟩:=Es.1 hca
  obtain⟨a,ha,rfl⟩:=Ex.1 hm;exact CE hn hl c a (iJ.1 ha)
def cfG5:CallF:=aE (aE (aE (aE (aE cf0 184 c184) 141 Ca) 185 c185) 186 c186) 187 c187
theorem A2:CallFOk prog cfG5:=ah (ah (ah (ah (ah aa Cl) BA) c185_ok) c186_ok) c187_ok
theorem BL(n:Nt)(z:Z)(l:List Sn)(hz:z=.n->l=[])(hnof:l.map nof=l)(hP:PlanOk n l):ab prog 139 [.agg (plC n z l)] [] (.ret (.tuple [.agg [ii (spO (A0 n l)).1,ii (spO (A0 n l)).2],.bool (A0 n l).isSome])) []:=by
 refine ab.ofF hTT func139 rfl rfl ?_;have hdn:=dt (n:=n) hz hnof;have hc2:=ay l;have hl10:=hP.l10;have hl11:l.length<=11:=by omega
 have hfc:∀c∈nO l,fitB l c=true:=fun c hc=>hP.fitC (tO.1 hc)
 have hln:=ve hl10;have hwin:=hP.win;have hfl:=hP.fit;have hns:=xW.1 hP.nt;have hws:=BN.1 hP.wd;have hS:A0 n l=(nO l).foldl (B3 n l) none:=rfl;have hstepR:∀o c,B3 n l o c=(qe n.w0).foldl (fun o a=>AY o (B6 n l c a)) o:=fun _ _=>rfl
 have h140:=Aw n z l hz hnof hl10;generalize A0 n l=S at hS ⊢;generalize nO l=C at hfc hln hS h140;obtain⟨zz,hzz⟩:∃zz,zz=(if C.length=0 then Z.n else Z.a):=⟨_,rfl⟩;have hzn:zz=.n->C=[]:=fun e=>by
  rw[hzz]at e;split at e
  ·rename_i h
   exact Ew.1 h
  ·cases e
 have hc4:ab prog 140 [.agg (plC n z l)] [] (.ret (.sl zz (C.map slc))) []:=by
  simp only[Eo]at h140;rw[hzz];exact h140
 clear hzz h140;obtain⟨W0,hW0⟩:∃W,W=qe n.w0:=⟨_,rfl⟩;have l0:=lB n.w0;have r0:=fun i=>po (w:=n.w0) (i:=i)
 simp only[←hW0]at l0 r0 hstepR;clear hW0;have hltb:bD 0 [PV.agg (plC n z l)]=true:=ae 0 _ (by simp[ad,PV.closed,hc2])
 repeat with_reducible first|refine nz (aj aa (ent func140 rfl) hc4 hltb) ?_|apply ny;simp only[f139,eA,hc2,go_sem];rfl
 refine am.keep [7,6,5,4,2,1] (by simp only[go_sem];rfl) ?_
 obtain⟨ST,hST⟩:∃ST:List (Nat×PV)->Option (Int×Int)->List Box->St,ST=fun tm o C'=>⟨tm++[(6,.bool o.isSome),(5,.bp 2 0),(4,.sl zz (C.map slc)),(2,.bp 1 0),(1,.bp 0 0)],74,[.var (plC n z l) false,.var [ii 0,ii 0] false,.var [ii (spO o).1,ii (spO o).2] false]++C'⟩:=⟨_,rfl⟩
 refine am.loop (fun j s'=>∃o,S=(C.drop j).foldl (B3 n l) o∧s'=ST [(7,ii (j:Int))] o []) C.length ⟨none,hS,by rw[hST];rfl⟩ ?_
 rintro j _ hj ⟨o,hSo,rfl⟩;by_cases hjl:j<C.length
 ·obtain⟨c,hc⟩:=gex hjl
  have hc':(C.map slc)[j]?=some (slc c):=aw hc;have hjl':(j:Int)<C.length:=by omega
  have hzn':zz≠.n:=fun e=>by rw[hzn e]at hjl;simp at hjl
  have hdc:=qt c;have hfit:=hfc c (DU hc);have e5:=wIs j (by omega)
  have hsc:slc c=.sl (if c=[]then .n else .a) (nn c):=rfl;have hcc2:=aO c;rw[hsc]at hc' hdc;generalize hz2:(if c=[]then Z.n else Z.a)=z2 at hc' hdc hsc;have hwv:tW l c=.agg [ii (loP l c 0),ii (hiP l c 0),ii (loP l c 1),ii (hiP l c 1),ii (loP l c 2),ii (hiP l c 2)]:=rfl;have g0:=sv (dL.1 hfit) 0;rw[aP hc,EI,hstepR]at hSo;rw[hST];dsimp only[EK,EA];repeat with_reducible first|refine nz A2 ?_|apply ny;simp only[f139,cfG5,c184,hdn,hdc,hc',hjl',hzn',hfit,hl11,hwv,hc2,hcc2,go_sem];rfl
  refine am.keep [9,8,7,6,5,4,2,1] (by simp only[go_sem];rfl) ?_
  refine am.loop (fun t s'=>∃o,S=(C.drop (j+1)).foldl (B3 n l) ((W0.drop t).foldl (fun o a=>AY o (B6 n l c a)) o)∧s'=ST [(9,ii (n.w0.1+(t:Int))),(8,.bp 4 0),(7,ii (j:Int))] o [.dead,.var [ii (loP l c 0),ii (hiP l c 0),ii (loP l c 1),ii (hiP l c 1),ii (loP l c 2),ii (hiP l c 2)] false]) W0.length ⟨o,hSo,by rw[hST];first|(simp only[Int.natCast_zero,Gw,go_sem];first|done|rfl)|rfl⟩ ?_
  rintro t _ ht ⟨o',hS',rfl⟩;by_cases htl:t<W0.length
  ·have hx:=r0 t htl
   have hx2:n.w0.1+(t:Int)<=n.w0.2:=by omega
   have e6:IntKind.i64.wrap (n.w0.1+(t:Int)+1)=n.w0.1+((t+1:Nat):Int):=(ai (by have:=hns.p0;have:=hns.q0;omega) (by have:=hns.p0;have:=hns.q0;omega)).trans (by omega)
   rw[aP hx,EI]at hS';have hxb:-100000<=n.w0.1+(t:Int)∧n.w0.1+(t:Int)<=100000:=by have:=hns.p0;have:=hns.q0;omega
   generalize n.w0.1+(t:Int)=x at hx hx2 e6 hS' hxb;have e7:IntKind.i64.wrap (x-hiP l c 0)=x-hiP l c 0:=ai (by omega) (by omega)
   have e8:IntKind.i64.wrap (x-loP l c 0)=x-loP l c 0:=ai (by omega) (by omega)
   have hbA:B6 n l c x=if max 0 (x-hiP l c 0)<=min 900 (x-loP l c 0)∧lE (n.nar x (max 0 (x-hiP l c 0))) l c=true then some (max 0 (x-hiP l c 0),min 900 (x-loP l c 0))else none:=rfl;have hfb:0<=max 0 (x-hiP l c 0):=Int.le_max_left _ _;have htb:min 900 (x-loP l c 0)<=900:=Int.min_le_left _ _;generalize hfr:max 0 (x-hiP l c 0)=fr at hbA hfb;generalize hto:min 900 (x-loP l c 0)=to at hbA htb;have hnn:(n.win x x).at fr=n.nar x fr:=rfl;have hdm:eS (.agg (plC (n.win x x) z l))=some (n.win x x,z,l):=dt hz hnof;have hdm2:eS (.agg (plC (n.nar x fr) z l))=some (n.nar x fr,z,l):=dt hz hnof;have hwd2:wdB (n.nar x fr)=true:=BN.2 ⟨by show x-x<=1000;omega,hws.k1,hws.k2⟩
   have hcan:=zJ (n:=n.nar x fr) ⟨EN _,hwin.k1,hwin.k2⟩ hfl c;by_cases hle:fr<=to
   ·have hnt2:ntB (n.nar x fr)=true:=xW.2 ⟨by show -100000<=fr∧fr<=100000;omega,by show -100000<=x∧x<=100000;omega,by show -100000<=x∧x<=100000;omega,hns.p1,hns.q1,hns.p2,hns.q2⟩
    cases hcb:lE (n.nar x fr) l c
    ·rw[hcb]at hcan hbA
     have hch:=hcan.symm;have hbN:B6 n l c x=none:=by rw[hbA,D5 (fun h=>by cases h.2)]
     have hwo:AY o' (B6 n l c x)=o':=by rw[hbN];cases o' <;> rfl
     rw[hwo]at hS';rw[hST];dsimp only[EK,EA];repeat with_reducible first|refine nz A2 ?_|apply ny;simp only[f139,cfG5,Ca,c185,c186,hdn,hdm,hdm2,hnn,hdc,hc',hjl',hzn',hfit,hl11,hnt2,hwd2,hch,hx2,e6,e7,e8,mxI,mnI,hfr,hto,hle,hc2,hcc2,go_sem];rfl
     refine ak.t 5 [9,8,7,6,5,4,2,1] htl (by simp only[aK,an,gi,go_sem]) ⟨o',hS',by first|(simp only[go_sem];first|done|rfl)|rfl⟩
    ·rw[hcb]at hcan hbA
     have hch:=hcan.symm;have hbS:B6 n l c x=some (fr,to):=by rw[hbA,DZ ⟨hle,rfl⟩]
     have hwo:AY o' (B6 n l c x)=some (A9 (spO o') fr to o'.isSome):=by rw[hbS,Bt]
     rw[hwo]at hS';rw[hST];dsimp only[EK,EA];generalize hso:spO o'=so;obtain⟨s1,s2⟩:=so;rw[hso]at hS';generalize hjo:A9 (s1,s2) fr to o'.isSome=jo at hS';repeat with_reducible first|refine nz A2 ?_|apply ny;simp only[f139,cfG5,Ca,c185,c186,c187,hdn,hdm,hdm2,hnn,hdc,hc',hjl',hzn',hfit,hl11,hnt2,hwd2,hch,hx2,e6,e7,e8,mxI,mnI,hfr,hto,hle,hjo,hc2,hcc2,go_sem];rfl
     refine ak.t 5 [9,8,7,6,5,4,2,1] htl (by simp only[aK,an,gi,go_sem]) ⟨some jo,hS',by first|(simp only[go_sem];first|done|rfl)|rfl⟩
   ·have hbN:B6 n l c x=none:=by rw[hbA,D5 (fun h=>hle h.1)]
    have hwo:AY o' (B6 n l c x)=o':=by rw[hbN];cases o' <;> rfl
    rw[hwo]at hS';rw[hST];dsimp only[EK,EA];repeat with_reducible first|refine nz A2 ?_|apply ny;simp only[f139,hx2,e6,e7,e8,mxI,mnI,hfr,hto,hle,go_sem];rfl
    refine ak.t 5 [9,8,7,6,5,4,2,1] htl (by simp only[aK,an,gi,go_sem]) ⟨o',hS',by first|(simp only[go_sem];first|done|rfl)|rfl⟩
  ·obtain rfl:t=W0.length:=by omega
   rw[EL]at hS';have hS':S=(C.drop (j+1)).foldl (B3 n l) o':=hS';have hx2:¬n.w0.1+(W0.length:Int)<=n.w0.2:=by have:=hwin.k0;omega
   rw[hST];dsimp only[EK,EA];repeat with_reducible first|refine nz aa ?_|apply ny;simp only[f139,hx2,e5,go_sem];rfl
   refine ak.t 3 [7,6,5,4,2,1] hjl (by simp only[aK,an,gi,go_sem]) ⟨o',hS',by first|(simp only[go_sem];first|done|rfl)|rfl⟩
 ·obtain rfl:j=C.length:=by omega
  rw[EL]at hSo;have hSo:S=o:=hSo;subst hSo;have hjl':¬(C.length:Int)<C.length:=by omega
  rw[hST];dsimp only[EK,EA];repeat with_reducible first|refine nz aa ?_|apply ny;simp only[f139,hjl',go_sem];rfl
  exact⟨rfl,rfl,_,rfl,aq rfl⟩
end Go.Pv
