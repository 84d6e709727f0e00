import Derived.Test.YtkjalecddameoaaGreatDoorQmRefB
set_option linter.all false
open Go.Proofs.Tryz
namespace Go.Pv
open Go Go.RowKit Go.Proofs
set_option maxRecDepth 200000
set_option maxHeartbeats 8000000
def c140:Tb_
 |[v],sg=>match eS v with
  |some (_,_,l)=>if l.length<=10 then some (.ret (.sl (if decide ((nO l).length=0)=true then .n else .a) ((nO l).map slc)),sg)else none
  |none=>none
 |_,_=>none
theorem c140_ok:al prog 140 c140:=al.of0 (ent func140 rfl) fun args sg r sg' h=>by
 unfold c140 at h;split at h <;> try (cases h;done)
 split at h <;> try (cases h;done)
 rename_i n z l h1;split at h <;> cases h
 rename_i hc;have hl:=eV h1;obtain⟨rfl,hz⟩:=b8 h1;exact⟨_,rfl,rfl,by rw[af,fi];rfl,Aw n z l hz hl hc⟩
def cfE5:CallF:=aE (aE cf0 140 c140) 141 c141
theorem pX:CallFOk prog cfE5:=ah (ah aa c140_ok) c141_ok
theorem canL_ref{n:Nt}{l:List Sn}(h:PlanOk n l):qf n l=(nO l).filter fun c=>decide (cR n l c≠[]):=by
 unfold qf;exact IQ fun c _=>zJ h.win h.fit c
theorem ve{l:List Sn}(hl:l.length<=10):(nO l).length<=20000:=by
 have key:∀q:List Nat,(q.flatMap (choK l)).length<=1024*q.length:=by
  intro q;induction q with
  |nil=>exact Ee _
  |cons k q ih =>
   rw[E2,Ea,Ek];have h1:=iG l.length k 0;have h2:2 ^ (l.length-0)<=2 ^ 10:=FA (by decide) (by omega)
   have h3:(choK l k).length<=(c7 l.length k 0).length:=Fh ..;omega
 have:=key ((List.range (l.length+1)).reverse)
 rw[xF];rw[List.length_reverse,JZ]at this;omega
theorem vK(n:Nt)(z:Z)(l:List Sn)(hz:z=.n->l=[])(hnof:l.map nof=l)(hP:PlanOk n l):ab prog 74 [.agg (plC n z l)] [] (.ret (.sl (if decide ((qf n l).length=0)=true then .n else .a) ((qf n l).map slc))) []:=by
 refine ab.ofF hTT func74 rfl rfl ?_;have hdn:=dt (n:=n) hz hnof;have hc2:=ay l;have hl10:=hP.l10;have hl11:l.length<=11:=by omega
 have hnt:=hP.nt;have hwd:=hP.wd;have hfc:∀c∈nO l,fitB l c=true:=fun c hc=>hP.fitC (tO.1 hc)
 have hcl:=c9 (nO l);have hln:=ve hl10;rw[canL_ref hP];generalize hCe:nO l=C at hfc hcl hln ⊢;obtain⟨zz,hzz⟩:∃zz,zz=(if C.length=0 then Z.n else Z.a):=⟨_,rfl⟩;have hzn:zz=.n->C=[]:=fun e=>by
  rw[hzz]at e;split at e
  ·rename_i h
   exact Ew.1 h
  ·cases e
 have hc4:ab prog 140 [.agg (plC n z l)] [] (.ret (.sl zz (C.map slc))) []:=by
  have:=Aw n z l hz hnof hl10
  rw[hCe]at this;simp only[Eo]at this;rw[hzz];exact this
 clear hzz hCe;have hltb:bD 0 [PV.agg (plC n z l)]=true:=ae 0 _ (by simp[ad,PV.closed,hc2])
 repeat with_reducible first|refine nz (aj aa (ent func140 rfl) hc4 hltb) ?_|apply ny;simp only[f74,eA,hc2,go_sem];rfl
 refine am.keep [5,4,3,1] (by simp only[go_sem];rfl) ?_
 refine am.nilRow 4 26 1 (by simp only[go_sem]) (by simp only[go_sem];rfl) (by simp only[go_sem];rfl) ?_
 refine am.loop (fun j s'=>∃P:List (List Nat),C.filter (fun c=>decide (cR n l c≠[]))=P++(C.drop j).filter (fun c=>decide (cR n l c≠[]))∧P.length<=j∧s'=⟨[(5,ii (j:Int)),(4,.ms 1 P.length),(3,.sl zz (C.map slc)),(1,.bp 0 0)],28,[.var (plC n z l) false,.row (decide (P.length=0)) 26 1 (P.map slc) false]⟩) C.length ⟨[],rfl,Ee _,rfl⟩ ?_
 rintro j _ hj ⟨P,hP,hPl,rfl⟩;by_cases hjl:j<C.length
 ·obtain⟨c,hc⟩:=gex hjl
  have hc':(C.map slc)[j]?=some (slc c):=aw hc;have hjl':(j:Int)<C.length:=by omega
  have hzn':zz≠.n:=fun e=>by rw[hzn e]at hjl;simp at hjl
  have hdc:=qt c;have hfit:=hfc c (DU hc);have e5:=wIs j (by omega)
  have m1:P.length+1<=maxLen:=by unfold maxLen;omega
  have m2:(P.length+1)*24<=140737488355328:=by omega
  have hd1:decide (P.length+1=0)=false:=by simp
  have hsc:slc c=.sl (if c=[]then .n else .a) (nn c):=rfl;have hcc2:=aO c;rw[aP hc,EZ]at hP;rw[hsc]at hc' hdc;generalize hz2:(if c=[]then Z.n else Z.a)=z2 at hc' hdc hsc;cases hch:decide (cR n l c≠[])
  ·rw[hch]at hP
   simp only[E8,Gt]at hP;repeat with_reducible first|refine nz pX ?_|apply ny;simp only[f74,cfE5,c141,hdn,hdc,hc',hjl',hzn',hch,hfit,hl11,hnt,hwd,hc2,hcc2,e5,go_sem];rfl
   refine ak.t 2 [5,4,3,1] hjl (by simp only[aK,an,gi,go_sem]) ⟨P,hP,by omega,by first|(simp only[go_sem];first|done|rfl)|rfl⟩
  ·rw[hch]at hP
   simp only[Fy]at hP;have hP:C.filter (fun c=>decide (cR n l c≠[]))=(P++[c])++(C.drop (j+1)).filter (fun c=>decide (cR n l c≠[])):=by rw[hP];simp
   repeat with_reducible first|refine nz pX ?_|apply ny;simp only[f74,cfE5,c141,hdn,hdc,hc',hjl',hzn',hch,hfit,hl11,hnt,hwd,hc2,hcc2,e5,m1,m2,go_sem];rfl
   refine ak.t 2 [5,4,3,1] hjl (by simp only[aK,an,gi,cb,bJ,go_sem]) ⟨P++[c],hP,by simp;omega,by rw[Ec,Ea];first|(simp only[hd1,hsc,go_sem];first|done|rfl)|rfl⟩
 ·obtain rfl:j=C.length:=by omega
  rw[EL]at hP;have hP:C.filter (fun c=>decide (cR n l c≠[]))=P:=by rw[hP];exact Er _
  rw[hP];have hjl':¬(C.length:Int)<C.length:=by omega
  repeat with_reducible first|refine nz aa ?_|apply ny;simp only[f74,hjl',go_sem];rfl
  exact⟨rfl,rfl,_,rfl,leave_row (id:=1) rfl (c9 _) (DX ..).symm⟩
theorem ro(n:Nt)(z:Z)(l:List Sn)(hz:z=.n->l=[])(hnof:l.map nof=l)(hP:PlanOk n l):ab prog 160 [.agg (plC n z l)] [] (.ret (.bool (iL n l))) []:=by
 refine ab.of0 hTT func160 rfl rfl ?_;have hc2:=ay l;have h74:=vK n z l hz hnof hP;have e:iL n l=decide ((0:Int)<((qf n l).length:Nat)):=by
  unfold iL;rw[Fa];constructor
  ·intro h
   have:(qf n l).length≠0:=fun e=>h (Ew.1 e)
   omega
  ·intro h e
   rw[e]at h;simp at h
 rw[e];generalize qf n l=C at h74;generalize (if decide (C.length=0)=true then Z.n else Z.a)=zz at h74;have hcC:=c9 C;have hltb:bD 0 [PV.agg (plC n z l)]=true:=ae 0 _ (by simp[ad,PV.closed,hc2])
 repeat with_reducible first|refine nz (aj aa (ent func74 rfl) h74 hltb) ?_|apply ny;simp only[f160,eA,hc2,EW,go_sem];rfl
 exact⟨rfl,rfl,_,rfl,rfl⟩
def c160:Tb_
 |[v],sg=>match eS v with
  |some (n,_,l)=>if du n l=true then some (.ret (.bool (iL n l)),sg)else none
  |none=>none
 |_,_=>none
theorem oR:al prog 160 c160:=al.of0 (ent func160 rfl) fun args sg r sg' h=>by
 unfold c160 at h;split at h <;> try (cases h;done)
 split at h <;> try (cases h;done)
 rename_i n z l h1;split at h <;> cases h
 rename_i hc;have hl:=eV h1;obtain⟨rfl,hz⟩:=b8 h1;exact⟨_,rfl,rfl,by rw[af,fi];rfl,ro n z l hz hl (xn hc)⟩
theorem qO(l:List Sn)(i:Nat)(x:Sn):(l.map cH).set i (cH x)=(l.set i x).map cH:=by rw[Ga]
theorem fixL_at{l:List Sn}{i:Nat}{x:Sn}(h:l[i]?=some x)(k:Int):kQ l i k=l.set i { x with least:=k,most:=k }:=by unfold kQ;rw[h]
theorem fixL_nof{l:List Sn}(h:l.map nof=l)(i:Nat)(k:Int):(kQ l i k).map nof=kQ l i k:=by
 unfold kQ;split
 ·next x hx =>
  rw[Ga,h];have:nof x=x:=by
   have h2:(l.map nof)[i]?=some (nof x):=by rw[Eh,hx];rfl
   rw[h,hx]at h2;exact(Option.some.inj h2).symm
  congr 1
  show nof { x with least:=k,most:=k }=_
  unfold nof at this ⊢;rw[Sn.mk.injEq];have hf:=congrArg Sn.formula this;exact⟨rfl,rfl,rfl,rfl,hf⟩
 ·exact h
theorem pH{sg:List Box}{id:Nat}{z:Bool}{e:TypeId}{k:Nat}{es:List PV}{frz:Bool}(h:sg[id]?=some (.row z e k es frz))(hc:ad es=true){m:Nat}(hm:m=es.length)(a0 a1 a2 a3 a4 a5 a6:Int):
 bR 0 (.agg [ii a0,ii a1,ii a2,ii a3,ii a4,ii a5,ii a6,.ms id m]) sg=(.agg [ii a0,ii a1,ii a2,ii a3,ii a4,ii a5,ii a6,.sl (if z then .n else .a) es],[]) :=
 A6 (by
  rw[tY (n:=7) (by simp[ad,PV.closed])]
  simp only[cO,aZ (n:=6) (v:=ii a0) rfl,aZ (n:=6) (v:=ii a1) rfl,aZ (n:=6) (v:=ii a2) rfl,aZ (n:=6) (v:=ii a3) rfl,aZ (n:=6) (v:=ii a4) rfl,aZ (n:=6) (v:=ii a5) rfl,aZ (n:=6) (v:=ii a6) rfl,frzX_row (n:=5) h hc hm]) (by simp[PV.closed,ad,hc])
theorem ns_all(l:List Sn):(l.map cH).all (fun y=>y.cells.length==5)=true:=by rw[FS];exact D7.2 fun _ _=>rfl
structure SmF(l:List Sn):Prop where
 sm:∀x∈l,0<=x.least∧x.least<=x.most∧x.most<=1000
theorem SmF.fit{l:List Sn}(h:SmF l):FitL l:=fun x hx=>by have:=h.sm x hx;omega
theorem SmF.fix{l:List Sn}(h:SmF l)(i:Nat){k:Int}(h0:0<=k)(h1:k<=1000):SmF (kQ l i k):=⟨fun y hy=>by
 unfold kQ at hy;split at hy
 ·next x hx =>
  rcases FO hy with hy|rfl
  ·exact h.sm y hy
  ·exact⟨h0,EN _,h1⟩
 ·exact h.sm y hy⟩
theorem SmF.fitB{l:List Sn}(h:SmF l){c:List Nat}(hc:∀x∈c,x<l.length)(hn:c.length<=1000):fitB l c=true:=dL.2 ⟨fun x hx=>by have:=h.sm x hx;omega,hc,hn⟩
theorem plan_smF{n:Nt}{l:List Sn}(h:du n l=true):SmF l:=by
 have hs:kK 0 l=true:=by unfold du at h;simp only[D3]at h;exact h.1.2
 exact⟨fun x hx=>by have:=sH hs x hx;omega⟩
theorem kl(n:Nt)(l:List Sn)(c:List Nat)(i m:Nat)(k:Int):j7 n l c i (m+1) k=if lE n (kQ l i k) c=true then k else j7 n l c i m (k+1):=rfl
theorem qV(n:Nt)(l:List Sn)(c:List Nat)(i:Nat):∀m k,k<=j7 n l c i m k∧j7 n l c i m k<=k+m
 |0,k=>⟨EN _,by show k<=_;omega⟩
 |m+1,k=>by
  rw[kl];split
  ·omega
  ·have:=qV n l c i m (k+1)
   omega
def Nt.win(n:Nt)(a b:Int):Nt:={ n with w0:=(a,b) }
end Go.Pv
