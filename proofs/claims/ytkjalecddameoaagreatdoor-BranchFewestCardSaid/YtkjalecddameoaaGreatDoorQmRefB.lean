import Derived.Test.YtkjalecddameoaaGreatDoorQmRef
set_option linter.all false
open Go.Proofs.Tryz
namespace Go.Pv
open Go Go.RowKit Go.Proofs
set_option maxRecDepth 200000
set_option maxHeartbeats 8000000
theorem lB(w:Int×Int):(qe w).length=(w.2-w.1+1).toNat:=by unfold qe;rw[DX,JZ]
theorem po{w:Int×Int}{i:Nat}(h:i<(qe w).length):(qe w)[i]?=some (w.1+(i:Int)):=by
 rw[lB]at h;unfold qe;rw[Eh,GP h];rfl
def hrZ(n:Nt)(l:List Sn)(c:List Nat)(x y:Int):List (Int×Int×Int):=(if inB (y-x) (loP l c 1) (hiP l c 1)=true then qe n.w2 else[]).filterMap fun z=>if inB (z-y) (loP l c 2) (hiP l c 2)=true then some (x,y,z)else none
def hrY(n:Nt)(l:List Sn)(c:List Nat)(x:Int):List (Int×Int×Int):=(if inB (x-n.b) (loP l c 0) (hiP l c 0)=true then qe n.w1 else[]).flatMap fun y=>hrZ n l c x y
theorem hours_eq(n:Nt)(l:List Sn)(c:List Nat):cR n l c=(qe n.w0).flatMap fun x=>hrY n l c x:=rfl
theorem kg{α β:Type}{l:List α}{i:Nat}{x:α}{f:α->List β}(h:l[i]?=some x):(l.drop i).flatMap f=f x++(l.drop (i+1)).flatMap f:=by rw[aP h,E2]
def h3V(h:Int×Int×Int):PV:=.agg [ii h.1,ii h.2.1,ii h.2.2]
theorem nH(L:List (Int×Int×Int)):ad (L.map h3V)=true:=aY (fun _=>rfl) L
theorem oa(m:Nat)(L:List (Int×Int×Int)):bD m (L.map h3V)=true:=fg (fun _=>rfl) L
structure NtWd(n:Nt):Prop where
 k0:n.w0.2-n.w0.1<=1000
 k1:n.w1.2-n.w1.1<=1000
 k2:n.w2.2-n.w2.1<=1000
def wdB(n:Nt):Bool:=decide (n.w0.2-n.w0.1<=1000)&&decide (n.w1.2-n.w1.1<=1000)&&decide (n.w2.2-n.w2.1<=1000)
theorem wd_iff{n:Nt}:wdB n=true↔NtWd n:=by
 unfold wdB;simp only[D3,Eo];exact⟨fun h=>⟨h.1.1,h.1.2,h.2⟩,fun h=>⟨⟨h.k0,h.k1⟩,h.k2⟩⟩
def cfY:CallF:=aE (aE cf0 184 c184) 233 c233
theorem er:CallFOk prog cfY:=ah (ah aa c184_ok) c233_ok
theorem xT(n:Nt)(z zs:Z)(l:List Sn)(c:List Nat)(hz:z=.n->l=[])(hnof:l.map nof=l)(hzs:zs=.n->c=[])(hf:fitB l c=true)(hl:l.length<=11)(hn:NtSm n)(hw:NtWd n):
 ab prog 189 [.agg (plC n z l),.sl zs (nn c)] [] (.ret (.sl (if decide ((cR n l c).length=0)=true then .n else .a) ((cR n l c).map h3V))) []:=by
 refine ab.ofF hTT func189 rfl rfl ?_;have hd:=dm hzs;have hdn:=dt (n:=n) hz hnof;have hc1:=aO c;have hc2:=ay l;have hHe:=hours_eq n l c;have g0:=sv (dL.1 hf) 0;have g1:=sv (dL.1 hf) 1;have g2:=sv (dL.1 hf) 2;have hYd:∀x,hrY n l c x=(if inB (x-n.b) (loP l c 0) (hiP l c 0)=true then qe n.w1 else[]).flatMap fun y=>hrZ n l c x y:=fun x=>rfl
 have hZd:∀x y,hrZ n l c x y=(if inB (y-x) (loP l c 1) (hiP l c 1)=true then qe n.w2 else[]).filterMap fun z=>if inB (z-y) (loP l c 2) (hiP l c 2)=true then some (x,y,z)else none:=fun x y=>rfl
 have hwv:tW l c=.agg [ii (loP l c 0),ii (hiP l c 0),ii (loP l c 1),ii (hiP l c 1),ii (loP l c 2),ii (hiP l c 2)]:=rfl;generalize hrZ n l c=FZ at hYd hZd;generalize hrY n l c=FY at hHe hYd;generalize cR n l c=H at hHe ⊢;obtain⟨n1,n2,n3,n4,n5,n6,n7⟩:=hn;obtain⟨wd0,wd1,wd2⟩:=hw;obtain⟨W0,hW0⟩:∃W,W=qe n.w0:=⟨_,rfl⟩;obtain⟨W1,hW1⟩:∃W,W=qe n.w1:=⟨_,rfl⟩;obtain⟨W2,hW2⟩:∃W,W=qe n.w2:=⟨_,rfl⟩;have l0:=lB n.w0;have l1:=lB n.w1;have l2:=lB n.w2;have r0:=fun i=>po (w:=n.w0) (i:=i)
 have r1:=fun i=>po (w:=n.w1) (i:=i)
 have r2:=fun i=>po (w:=n.w2) (i:=i)
 simp only[←hW0]at l0 r0 hHe;simp only[←hW1]at l1 r1 hYd;simp only[←hW2]at l2 r2 hZd;clear hW0 hW1 hW2;obtain⟨b,⟨p0,q0⟩,⟨p1,q1⟩,⟨p2,q2⟩⟩:=n;simp only at *;repeat with_reducible first|refine nz er ?_|apply ny;simp only[f189,cfY,c184,hd,hdn,hc1,hc2,hf,hl,hwv,go_sem];rfl
 generalize loP l c 0=a0 at *;generalize loP l c 1=a1 at *;generalize loP l c 2=a2 at *;generalize hiP l c 0=h0 at *;generalize hiP l c 1=h1 at *;generalize hiP l c 2=h2 at *;clear hwv;refine am.keep [7,6,5,2] (by simp only[go_sem];rfl) ?_
 refine am.nilRow 6 286 3 (by simp only[go_sem]) (by simp only[go_sem];rfl) (by simp only[go_sem];rfl) ?_
 obtain⟨ST,hST⟩:∃ST:List (Nat×PV)->List (Int×Int×Int)->St,ST=fun tm O=>⟨tm++[(6,.ms 2 O.length),(5,.bp 1 0),(2,.bp 0 0)],78,[.var (plC ⟨b,(p0,q0),(p1,q1),(p2,q2)⟩ z l) false,.var [ii a0,ii h0,ii a1,ii h1,ii a2,ii h2] false,.row (decide (O.length=0)) 286 3 (O.map h3V) false]⟩:=⟨_,rfl⟩
 refine am.loop (fun i s'=>∃O:List (Int×Int×Int),H=O++(W0.drop i).flatMap FY∧O.length<=1002001*i∧s'=ST [(7,ii (p0+(i:Int)))] O) W0.length ⟨[],by rw[hHe];rfl,Ee _,by rw[hST];first|(simp only[Int.add_zero,go_sem];first|done|rfl)|rfl⟩ ?_
 rintro i _ hi ⟨O,hO,hOl,rfl⟩;by_cases hlt:i<W0.length
 ·have hx:=r0 i hlt
  have hc0:p0+(i:Int)<=q0:=by omega
  have e1:IntKind.i64.wrap (p0+(i:Int)+1)=p0+((i+1:Nat):Int):=(ai (by omega) (by omega)).trans (by omega)
  rw[kg hx]at hO;have hxb:-200000<=p0+(i:Int)∧p0+(i:Int)<=200000:=by omega
  generalize p0+(i:Int)=x at hx hc0 e1 hxb hO;have e2:IntKind.i64.wrap (x-b)=x-b:=ai (by omega) (by omega)
  rw[hYd x]at hO;obtain⟨Y,hY⟩:∃Y,Y=(if inB (x-b) a0 h0=true then W1 else[]):=⟨_,rfl⟩;rw[←hY]at hO;have hYl:Y.length<=1001:=by
   by_cases hh:inB (x-b) a0 h0=true
   ·rw[hY,DZ hh];omega
   ·rw[hY,D5 hh];exact Ee _
  rw[hST];dsimp only[EK,EA];repeat with_reducible first|refine nz aa ?_|apply ny;simp only[f189,hc0,go_sem];rfl
  refine am.keep [8,7,6,5,2] (by simp only[go_sem];rfl) ?_
  refine am.loop (fun j s'=>∃P:List (Int×Int×Int),H=P++((Y.drop j).flatMap (fun y=>FZ x y)++(W0.drop (i+1)).flatMap FY)∧P.length<=1002001*i+1001*j∧s'=ST [(8,ii (p1+(j:Int))),(7,ii x)] P) Y.length ⟨O,hO,hOl,by rw[hST];first|(simp only[Int.add_zero,go_sem];first|done|rfl)|rfl⟩ ?_
  rintro j _ hj ⟨P,hP,hPl,rfl⟩;by_cases hjl:j<Y.length
  ·have hin:inB (x-b) a0 h0=true:=by
    cases h:inB (x-b) a0 h0
    ·rw[hY,h]at hjl;simp at hjl
    ·rfl
   have hYW:Y=W1:=by rw[hY,DZ hin]
   have hy:Y[j]?=some (p1+(j:Int)):=by rw[hYW];exact r1 j (by rw[←hYW];exact hjl)
   have hc1':p1+(j:Int)<=q1:=by rw[hYW]at hjl;omega
   have f1:IntKind.i64.wrap (p1+(j:Int)+1)=p1+((j+1:Nat):Int):=by rw[hYW]at hjl;exact(ai (by omega) (by omega)).trans (by omega)
   have hyb:-200000<=p1+(j:Int)∧p1+(j:Int)<=200000:=by omega
   rw[kg hy]at hP;generalize p1+(j:Int)=y at hy hc1' f1 hyb hP;have f2:IntKind.i64.wrap (y-x)=y-x:=ai (by omega) (by omega)
   rw[hZd x y]at hP;obtain⟨V,hV⟩:∃V,V=(if inB (y-x) a1 h1=true then W2 else[]):=⟨_,rfl⟩;rw[←hV]at hP;have hVl:V.length<=1001:=by
    by_cases hh:inB (y-x) a1 h1=true
    ·rw[hV,DZ hh];omega
    ·rw[hV,D5 hh];exact Ee _
   rw[hST];dsimp only[EK,EA];repeat with_reducible first|refine nz er ?_|apply ny;simp only[f189,cfY,c233,hc1',e2,hin,go_sem];rfl
   refine am.keep [9,8,7,6,5,2] (by simp only[go_sem];rfl) ?_
   refine am.loop (fun k s'=>∃Q:List (Int×Int×Int),H=Q++(((V.drop k).filterMap fun z=>if inB (z-y) a2 h2=true then some (x,y,z)else none)++((Y.drop (j+1)).flatMap (fun y=>FZ x y)++(W0.drop (i+1)).flatMap FY))∧Q.length<=1002001*i+1001*j+k∧s'=ST [(9,ii (p2+(k:Int))),(8,ii y),(7,ii x)] Q) V.length ⟨P,by rw[hP,Et];rfl,hPl,by rw[hST];first|(simp only[Int.add_zero,go_sem];first|done|rfl)|rfl⟩ ?_
   rintro k _ hk ⟨Q,hQ,hQl,rfl⟩;by_cases hkl:k<V.length
   ·have hin2:inB (y-x) a1 h1=true:=by
     cases h:inB (y-x) a1 h1
     ·rw[hV,h]at hkl;simp at hkl
     ·rfl
    have hVW:V=W2:=by rw[hV,DZ hin2]
    have hv:V[k]?=some (p2+(k:Int)):=by rw[hVW];exact r2 k (by rw[←hVW];exact hkl)
    have hc2':p2+(k:Int)<=q2:=by rw[hVW]at hkl;omega
    have i1:IntKind.i64.wrap (p2+(k:Int)+1)=p2+((k+1:Nat):Int):=by rw[hVW]at hkl;exact(ai (by omega) (by omega)).trans (by omega)
    have hvb:-200000<=p2+(k:Int)∧p2+(k:Int)<=200000:=by rw[hVW]at hkl;omega
    rw[aP hv,F0]at hQ;generalize p2+(k:Int)=v at hv hc2' i1 hvb hQ;have i2:IntKind.i64.wrap (v-y)=v-y:=ai (by omega) (by omega)
    have m1:Q.length+1<=maxLen:=by unfold maxLen;omega
    have m2:(Q.length+1)*24<=140737488355328:=by omega
    have hd1:decide (Q.length+1=0)=false:=by simp
    cases hin3:inB (v-y) a2 h2
    ·rw[hin3]at hQ
     simp only[E8,Gt]at hQ;rw[hST];dsimp only[EK,EA];repeat with_reducible first|refine nz er ?_|apply ny;simp only[f189,cfY,c233,hc2',f2,i2,hin2,hin3,i1,go_sem];rfl
     refine ak.t 3 [9,8,7,6,5,2] hkl (by simp only[aK,an,oa,go_sem]) ⟨Q,hQ,by omega,by first|(simp only[go_sem];first|done|rfl)|rfl⟩
    ·rw[hin3]at hQ
     simp only[Fy]at hQ;have hQ:H=(Q++[(x,y,v)])++(((V.drop (k+1)).filterMap fun z=>if inB (z-y) a2 h2=true then some (x,y,z)else none)++((Y.drop (j+1)).flatMap (fun y=>FZ x y)++(W0.drop (i+1)).flatMap FY)):=by rw[hQ];simp
     rw[hST];dsimp only[EK,EA];repeat with_reducible first|refine nz er ?_|apply ny;simp only[f189,cfY,c233,hc2',f2,i2,hin2,hin3,i1,m1,m2,go_sem];rfl
     refine ak.t 3 [9,8,7,6,5,2] hkl (by simp only[aK,an,oa,bJ,go_sem]) ⟨Q++[(x,y,v)],hQ,by simp;omega,by rw[Ec,Ea];first|(simp only[hd1,go_sem];first|done|rfl)|rfl⟩
   ·obtain rfl:k=V.length:=by omega
    rw[EL]at hQ;have hQ:H=Q++((Y.drop (j+1)).flatMap (fun y=>FZ x y)++(W0.drop (i+1)).flatMap FY):=hQ
    have hex:inB (y-x) a1 h1=false∨¬p2+(V.length:Int)<=q2:=by
     cases h:inB (y-x) a1 h1
     ·exact .inl rfl
     ·right
      have hVW:V=W2:=by rw[hV,DZ h]
      rw[hVW];omega
    rw[hST];dsimp only[EK,EA];by_cases hc2':p2+(V.length:Int)<=q2
    ·have hin2:inB (y-x) a1 h1=false:=hex.elim id fun h=>absurd hc2' h
     repeat with_reducible first|refine nz er ?_|apply ny;simp only[f189,cfY,c233,hc2',f2,hin2,f1,go_sem];rfl
     refine ak.t 3 [8,7,6,5,2] hjl (by simp only[aK,an,oa,go_sem]) ⟨Q,hQ,by omega,by first|(simp only[go_sem];first|done|rfl)|rfl⟩
    ·repeat with_reducible first|refine nz er ?_|apply ny;simp only[f189,cfY,c233,hc2',f1,go_sem];rfl
     refine ak.t 3 [8,7,6,5,2] hjl (by simp only[aK,an,oa,go_sem]) ⟨Q,hQ,by omega,by first|(simp only[go_sem];first|done|rfl)|rfl⟩
  ·obtain rfl:j=Y.length:=by omega
   rw[EL]at hP;have hP:H=P++(W0.drop (i+1)).flatMap FY:=hP;have hex:inB (x-b) a0 h0=false∨¬p1+(Y.length:Int)<=q1:=by
    cases h:inB (x-b) a0 h0
    ·exact .inl rfl
    ·right
     have hYW:Y=W1:=by rw[hY,DZ h]
     rw[hYW];omega
   rw[hST];dsimp only[EK,EA];by_cases hc1':p1+(Y.length:Int)<=q1
   ·have hin:inB (x-b) a0 h0=false:=hex.elim id fun h=>absurd hc1' h
    repeat with_reducible first|refine nz er ?_|apply ny;simp only[f189,cfY,c233,hc1',e2,hin,e1,go_sem];rfl
    refine ak.t 3 [7,6,5,2] hlt (by simp only[aK,an,oa,go_sem]) ⟨P,hP,by omega,by first|(simp only[go_sem];first|done|rfl)|rfl⟩
   ·repeat with_reducible first|refine nz er ?_|apply ny;simp only[f189,cfY,c233,hc1',e1,go_sem];rfl
    refine ak.t 3 [7,6,5,2] hlt (by simp only[aK,an,oa,go_sem]) ⟨P,hP,by omega,by first|(simp only[go_sem];first|done|rfl)|rfl⟩
 ·obtain rfl:i=W0.length:=by omega
  rw[EL]at hO;have hO:H=O:=by rw[hO];exact Er _
  subst hO;have hc0:¬p0+(W0.length:Int)<=q0:=by omega
  rw[hST];dsimp only[EK,EA];repeat with_reducible first|refine nz aa ?_|apply ny;simp only[f189,hc0,go_sem];rfl
  exact⟨rfl,rfl,_,rfl,leave_row (id:=2) rfl (nH _) (DX ..).symm⟩
def c189:Tb_
 |[v,w],sg=>match eS v,gN w with
  |some (n,_,l),some c=>if(fitB l c=true∧l.length<=11)∧ntB n=true∧wdB n=true then some (.ret (.sl (if decide ((cR n l c).length=0)=true then .n else .a) ((cR n l c).map h3V)),sg)else none
  |_,_=>none
 |_,_=>none
theorem c189_ok:al prog 189 c189:=al.of0 (ent func189 rfl) fun args sg r sg' h=>by
 unfold c189 at h;split at h <;> try (cases h;done)
 split at h <;> try (cases h;done)
 rename_i n z l c h1 h2;split at h <;> cases h
 rename_i hc;have hl:=eV h1;obtain⟨rfl,hz⟩:=b8 h1;obtain⟨zs,rfl,hzs⟩:=cW h2;exact⟨_,rfl,rfl,by rw[af,af,fi,fB];rfl,xT n z zs l c hz hl hzs hc.1.1 hc.1.2 (xW.1 hc.2.1) (wd_iff.1 hc.2.2)⟩
def cfY2:CallF:=aE cf0 189 c189
theorem cfY2_ok:CallFOk prog cfY2:=ah aa c189_ok
theorem RCan_141(n:Nt)(z zs:Z)(l:List Sn)(c:List Nat)(hz:z=.n->l=[])(hnof:l.map nof=l)(hzs:zs=.n->c=[])(hf:fitB l c=true)(hl:l.length<=11)(hn:ntB n=true)(hw:wdB n=true):
 ab prog 141 [.agg (plC n z l),.sl zs (nn c)] [] (.ret (.bool (decide (cR n l c≠[])))) []:=by
 refine ab.of0 hTT func141 rfl rfl ?_;have hd:=dm hzs;have hdn:=dt (n:=n) hz hnof;have hc1:=aO c;have hc2:=ay l;have e:decide (cR n l c≠[])=decide ((0:Int)<((cR n l c).length:Nat)):=by
  rw[Fa];constructor
  ·intro h
   have:(cR n l c).length≠0:=fun e=>h (Ew.1 e)
   omega
  ·intro h e
   rw[e]at h;simp at h
 rw[e];have hcH:=nH (cR n l c);repeat with_reducible first|refine nz cfY2_ok ?_|apply ny;simp only[f141,cfY2,c189,hd,hdn,hc1,hc2,hf,hl,hn,hw,EW,go_sem];rfl
 exact⟨rfl,rfl,_,rfl,rfl⟩
def c141:Tb_
 |[v,w],sg=>match eS v,gN w with
  |some (n,_,l),some c=>if(fitB l c=true∧l.length<=11)∧ntB n=true∧wdB n=true then some (.ret (.bool (decide (cR n l c≠[]))),sg)else none
  |_,_=>none
 |_,_=>none
theorem c141_ok:al prog 141 c141:=al.of0 (ent func141 rfl) fun args sg r sg' h=>by
 unfold c141 at h;split at h <;> try (cases h;done)
 split at h <;> try (cases h;done)
 rename_i n z l c h1 h2;split at h <;> cases h
 rename_i hc;have hl:=eV h1;obtain⟨rfl,hz⟩:=b8 h1;obtain⟨zs,rfl,hzs⟩:=cW h2;exact⟨_,rfl,rfl,by rw[af,af,fi,fB];rfl,RCan_141 n z zs l c hz hl hzs hc.1.1 hc.1.2 hc.2.1 hc.2.2⟩
theorem sH:∀{l:List Sn} {p:Int},kK p l=true->∀x∈l,1<=x.least∧x.least<=240∧x.least<=x.most∧x.most<=240
 |[],_,_,x,hx=>by cases hx
 |y::l,p,h,x,hx=>by
  rw[kK]at h;simp only[D3,bm]at h;rcases D6.1 hx with rfl|hx
  ·omega
  ·exact sH h.2 x hx
structure PlanOk(n:Nt)(l:List Sn):Prop where
 l1:1<=l.length
 l10:l.length<=10
 win:WinOk n
 fit:FitL l
 nt:ntB n=true
 wd:wdB n=true
 sm:smB l=true
theorem xn{n:Nt}{l:List Sn}(h:du n l=true):PlanOk n l:=by
 have hs:kK 0 l=true:=by unfold du at h;simp only[D3]at h;exact h.1.2
 have hm:=sH hs;unfold du evB fD at h;simp only[D3,bm,Eo]at h;obtain⟨⟨⟨⟨⟨⟨e1,e2⟩,e3⟩,e4⟩,e5⟩,_⟩,_⟩:=h;refine⟨by omega,by omega,⟨by omega,by omega,by omega⟩,fun x hx=>by have:=hm x hx;omega,xW.2 ⟨by omega,by omega,by omega,by omega,by omega,by omega,by omega⟩,wd_iff.2 ⟨by omega,by omega,by omega⟩,?_⟩
 unfold smB;refine D7.2 fun x hx=>?_
 have:=hm x hx
 rw[D3,kD,kD];omega
theorem PlanOk.fitC{n:Nt}{l:List Sn}(h:PlanOk n l){c:List Nat}(hc:IsCho l c):fitB l c=true:=by
 unfold fitB;have hl:=jG (n:=l.length) (i:=0) hc.rise fun x hx=>⟨Ee _,hc.lt x hx⟩
 have:=h.l10
 rw[h.sm,EJ,D3];refine⟨?_,Ej (by omega)⟩
 unfold rgB;exact D7.2 fun x hx=>Ej (hc.lt x hx)
def slc(c:List Nat):PV:=.sl (if c=[]then .n else .a) (nn c)
theorem kp(c:List Nat):(slc c).closed=true:=aO c
theorem c9(L:List (List Nat)):ad (L.map slc)=true:=aY kp L
theorem gi(m:Nat)(L:List (List Nat)):bD m (L.map slc)=true:=fg (fun c=>bq m _ (kp c)) L
theorem qt(c:List Nat):gN (slc c)=some c:=dm fun e=>by
 split at e
 ·assumption
 ·cases e
theorem Hb{c:List Nat}(h:c≠[]):slc c=.sl .a (nn c):=by unfold slc;rw[D5 h]
theorem iG(n:Nat):∀k i,(c7 n k i).length<=2 ^ (n-i)
 |0,i=>Nat.one_le_two_pow
 |k+1,i=>by
  have ih:=iG n k;have aux:∀m i,i+m=n->((List.range' i m).flatMap fun j=>(c7 n k (j+1)).map (j::·)).length+1<=2 ^ m:=by
   intro m;induction m with
   |zero=>intro i _;exact DS _
   |succ m ihm =>
    intro i hi;have h1:=ihm (i+1) (by omega)
    have h2:=ih (i+1);rw[show n-(i+1)=m by omega]at h2
    rw[Fd,E2,Ea,DX,Nat.pow_succ];omega
  rw[c7];by_cases h:i<=n
  ·have:=aux (n-i) i (by omega)
   omega
  ·rw[show n-i=0 by omega]
   exact Ee _
def jy(now:List Nat):Nat:=match now.getLast? with
 |none=>0
 |some x=>x+1
def jc(n k:Nat)(now:List Nat):List (List Nat):=(c7 n k (jy now)).map (now++·)
def lzV:Nat->Nat->Z
 |0,_=>.f
 |_+1,n=>if decide (n=0)=true then .n else .a
theorem yJ(now:List Nat)(j:Nat):jy (now++[j])=j+1:=by unfold jy;rw[List.getLast?_append];rfl
theorem rf(n k:Nat)(now:List Nat):jc n (k+1) now=(List.range' (jy now) (n-jy now)).flatMap fun j=>jc n k (now++[j]):=by
 unfold jc;rw[c7,List.map_flatMap]
 congr 1
 funext j
 rw[Fb,yJ];refine EP fun c _=>?_
 simp
theorem ul(n k:Nat)(now:List Nat)(hn:n<=10):(jc n k now).length<=1024:=by
 unfold jc;rw[DX];have h1:=iG n k (jy now);have h2:2 ^ (n-jy now)<=2 ^ 10:=FA (by decide) (by omega)
 omega
def uV(n:Nt)(z:Z)(l:List Sn)(k:Nat):Prop:=∀now:List Nat,(∀x∈now,x<l.length)->now.length+k<=20 ->
 ab prog 188 [.agg (plC n z l),slc now,ii ((now.length+k:Nat):Int)] [] (.ret (.sl (lzV k (jc l.length k now).length) ((jc l.length k now).map slc))) []
theorem lists_0(n:Nt)(z:Z)(l:List Sn):uV n z l 0:=by
 intro now hnow hlen;refine ab.ofF hTT func188 rfl rfl ?_;have hL:jc l.length 0 now=[now]:=by unfold jc;rw[c7];simp
 have hb:((now.length:Int)==(now.length:Int))=true:=Fe _;rw[hL,Fz];rw[show(PV.sl (lzV 0 [now].length) ([now].map slc))=.sl .f [slc now]from rfl]
 have hcl:ad [slc now]=true:=c9 [now];obtain⟨zz,hzz⟩:∃zz,slc now=.sl zz (nn now):=⟨_,rfl⟩;rw[hzz]at hcl ⊢;repeat with_reducible first|refine nz aa ?_|apply ny;simp only[f188,hb,cz,go_sem];rfl
 exact⟨rfl,rfl,_,rfl,aq (show(PV.sl .f [.sl zz (nn now)]).closed=true from hcl)⟩
theorem In(n:Nt)(z:Z)(l:List Sn)(k:Nat)(hz:z=.n->l=[])(hl:l.length<=10)(IH:uV n z l k)(now:List Nat)(hn0:now=[])(hk:k<=19):ab prog 188 [.agg (plC n z l),slc now,ii ((now.length+(k+1):Nat):Int)] [] (.ret (.sl (if decide ((jc l.length (k+1) now).length=0)=true then .n else .a) ((jc l.length (k+1) now).map slc))) []:=by
 have hnow:∀x∈now,x<l.length:=fun x hx=>by rw[hn0]at hx;cases hx
 have hlen:now.length+(k+1)<=20:=by rw[hn0];simp;omega
 refine ab.ofF hTT func188 rfl rfl ?_;have hc2:=ay l;have hne:((now.length:Int)==((now.length+(k+1):Nat):Int))=false:=by rw[EF];omega
 have hcn:=aO now;have htot:=ul l.length (k+1) now hl;have hstep:=rf l.length k now;have hIH:∀j,j<l.length->ab prog 188 [.agg (plC n z l),.sl .a (nn now++[ii (j:Int)]),ii ((now.length+(k+1):Nat):Int)] [] (.ret (.sl (lzV k (jc l.length k (now++[j])).length) ((jc l.length k (now++[j])).map slc))) []:=fun j hj=>by
  have:=IH (now++[j]) (fun x hx=>by
   rcases Ez.1 hx with hx|hx
   ·exact hnow x hx
   ·rw[Ed.1 hx];exact hj) (by simp;omega)
  rw[Hb (by simp),oK,rQ,Ea,show now.length+[j].length+k=now.length+(k+1)by simp;omega]at this
  exact this
 have hfr:jy now<=l.length:=by
  unfold jy;split
  ·exact Ee _
  ·rename_i x hx
   have:=hnow x (GN hx)
   omega
 generalize jc l.length (k+1) now=T at htot hstep ⊢;have hbm:((now.length+(k+1):Nat):Int)<=20:=by omega
 generalize ((now.length+(k+1):Nat):Int)=MM at hne hIH hbm ⊢;subst hn0;have hf0:jy []=0:=rfl;have hs0:slc []=.sl .n []:=rfl;have hnn0:nn []=[]:=rfl;have hg:¬(0:Int)<((0:Nat):Int):=by decide
 rw[hs0];rw[hnn0]at hcn;rw[hf0]at hstep hfr;have hIH:∀j,j<l.length->ab prog 188 [.agg (plC n z l),.sl .a [ii (j:Int)],ii MM] [] (.ret (.sl (lzV k (jc l.length k ([]++[j])).length) ((jc l.length k ([]++[j])).map slc))) []:=hIH;have hne:((0:Int)==MM)=false:=hne;repeat with_reducible first|refine nz aa ?_|apply ny;simp only[f188,hne,hg,EW,ET,go_sem];rfl
 refine am.keep [9,8,3,1,2] (by simp only[go_sem];rfl) ?_
 refine am.nilRow 8 26 1 (by simp only[go_sem]) (by simp only[go_sem];rfl) (by simp only[go_sem];rfl) ?_
 refine am.loop (fun i s'=>∃O:List (List Nat),T=O++(List.range' (0+i) (l.length-(0+i))).flatMap (fun j=>jc l.length k ([]++[j]))∧s'=⟨[(9,ii ((0+i:Nat):Int)),(8,.ms 1 O.length),(3,.bp 0 0),(1,(.sl .n [])),(2,ii MM)],45,[.var (plC n z l) false,.row (decide (O.length=0)) 26 1 (O.map slc) false]⟩) (l.length-0) ⟨[],hstep,rfl⟩ ?_
 rintro i _ hi ⟨O,hO,rfl⟩;by_cases hlt:i<l.length-0
 ·obtain⟨j,hj⟩:∃j,j=0+i:=⟨_,rfl⟩
  have hj2:0+(i+1)=j+1:=by omega
  have hjl:j<l.length:=by omega
  have hjl':(j:Int)<l.length:=by omega
  have e4:=wIs j (by omega)
  rw[←hj,show l.length-j=(l.length-(j+1))+1 by omega,Fd,E2]at hO
  have hrec:=hIH j hjl;generalize lzV k (jc l.length k ([]++[j])).length=zz at hrec;generalize hL:jc l.length k ([]++[j])=L at hO hrec;rw[←hj];have hO2:T=(O++L)++(List.range' (j+1) (l.length-(j+1))).flatMap (fun j=>jc l.length k ([]++[j])):=by rw[hO,Et]
  have hTl:=congrArg List.length hO2;rw[Ea,Ea]at hTl;obtain⟨X,hX⟩:∃X,X=L.map slc:=⟨_,rfl⟩;have hXl:X.length=L.length:=by rw[hX,DX]
  have hXa:(X.all fun y=>y.cells.length==1)=true:=by
   rw[hX,FS];exact D7.2 fun _ _=>rfl
  have hst2:(O++L).map slc=O.map slc++X:=by rw[Ec,hX]
  have hst3:(O++L).length=O.length+X.length:=by rw[Ea,hXl]
  have hXb:bD 2 (O.map slc++X)=true:=by rw[←hst2];exact gi 2 _
  rw[←hX]at hrec;have q1:(O.length+X.length)*24<=140737488355328:=by omega
  have q2:O.length+X.length<=maxLen:=by unfold maxLen;omega
  have q3:([]:List Nat).length*8<=140737488355328:=by omega
  have q4:([]:List Nat).length<=maxLen:=by unfold maxLen;omega
  have q5:(([]:List Nat).length+1)*8<=140737488355328:=by omega
  have q6:([]:List Nat).length+1<=maxLen:=by unfold maxLen;omega
  have hcR:ad ([ii (j:Int)])=true:=by have:=aO ([]++[j]);rw[oK,rQ]at this;exact this
  have hltb:bD 0 [PV.agg (plC n z l),.sl .a ([ii (j:Int)]),ii MM]=true:=ae 0 _ (by simp[ad,PV.closed,hc2,hcR])
  clear hX;by_cases hX0:X=[]
  ·subst hX0
   rw[Er]at hst2;have hst3:(O++L).length=O.length:=hst3;repeat with_reducible first|refine nz (aj aa (ent func188 rfl) hrec hltb) ?_|apply ny;simp only[f188,eA,hjl',EG,e4,hc2,hcn,hcR,cz,E9,Fl,go_sem];rfl
   refine ak.t 2 [9,8,3,1,2] hlt (by simp only[aK,cb,an,gi,go_sem]) ⟨O++L,by rw[hj2];exact hO2,by rw[hst2,hst3,hj2];first|(simp only[go_sem];first|done|rfl)|rfl⟩
  ·have hXe:X.isEmpty=false:=by cases X with
    |nil=>exact absurd rfl hX0
    |cons x X=>rfl
   have hXp:plain1 (.sl zz X)=false:=by cases X with
    |nil=>exact absurd rfl hX0
    |cons x X=>cases zz <;> rfl
   simp only[plain1]at hXp;simp only[PV.cells]at hXa;have hA0:decide (O.length+X.length=0)=false:=by
    have:X.length≠0:=fun e=>hX0 (Ew.1 e)
    exact Ei (by omega)
   repeat with_reducible first|refine nz (aj aa (ent func188 rfl) hrec hltb) ?_|apply ny;simp only[f188,eA,hjl',EG,hXe,hXa,hXp,q1,q2,e4,hc2,hcn,hcR,cz,E9,Fl,go_sem];rfl
   refine ak.t 2 [9,8,3,1,2] hlt (by simp only[aK,cb,an,hXb,go_sem]) ⟨O++L,by rw[hj2];exact hO2,by rw[hst2,hst3,hA0,hj2];first|(simp only[go_sem];first|done|rfl)|rfl⟩
 ·have hO':T=O:=by
   rw[hO,show l.length-(0+i)=0 by omega]
   exact Er _
  subst hO';have hlt':¬((0+i:Nat):Int)<l.length:=by omega
  generalize ((0+i:Nat):Int)=jj at hlt' ⊢;repeat with_reducible first|refine nz aa ?_|apply ny;simp only[f188,hlt',go_sem];rfl
  exact⟨rfl,rfl,_,rfl,leave_row (id:=1) rfl (c9 _) (DX ..).symm⟩
theorem v6(n:Nt)(z:Z)(l:List Sn)(k:Nat)(hz:z=.n->l=[])(hl:l.length<=10)(IH:uV n z l k)(now:List Nat)(hn0:now≠[])(hnow:∀x∈now,x<l.length)(hlen:now.length+(k+1)<=20):ab prog 188 [.agg (plC n z l),slc now,ii ((now.length+(k+1):Nat):Int)] [] (.ret (.sl (if decide ((jc l.length (k+1) now).length=0)=true then .n else .a) ((jc l.length (k+1) now).map slc))) []:=by
 refine ab.ofF hTT func188 rfl rfl ?_;have hc2:=ay l;have hne:((now.length:Int)==((now.length+(k+1):Nat):Int))=false:=by rw[EF];omega
 have hcn:=aO now;have htot:=ul l.length (k+1) now hl;have hstep:=rf l.length k now;have hIH:∀j,j<l.length->ab prog 188 [.agg (plC n z l),.sl .a (nn now++[ii (j:Int)]),ii ((now.length+(k+1):Nat):Int)] [] (.ret (.sl (lzV k (jc l.length k (now++[j])).length) ((jc l.length k (now++[j])).map slc))) []:=fun j hj=>by
  have:=IH (now++[j]) (fun x hx=>by
   rcases Ez.1 hx with hx|hx
   ·exact hnow x hx
   ·rw[Ed.1 hx];exact hj) (by simp;omega)
  rw[Hb (by simp),oK,rQ,Ea,show now.length+[j].length+k=now.length+(k+1)by simp;omega]at this
  exact this
 have hfr:jy now<=l.length:=by
  unfold jy;split
  ·exact Ee _
  ·rename_i x hx
   have:=hnow x (GN hx)
   omega
 generalize jc l.length (k+1) now=T at htot hstep ⊢;have hbm:((now.length+(k+1):Nat):Int)<=20:=by omega
 generalize ((now.length+(k+1):Nat):Int)=MM at hne hIH hbm ⊢;obtain⟨la,hla⟩:∃la,now.getLast?=some la:=⟨_,List.getLast?_eq_some_getLast hn0⟩;have hlp:0<now.length:=Gk.2 hn0;have hg:(0:Int)<(now.length:Nat):=by omega
 have hf0:jy now=la+1:=by unfold jy;rw[hla]
 have hlg:now[now.length-1]?=some la:=by rw[←Gn];exact hla
 have hlg':=mz hlg;have hlal:=hnow la (GN hla);have e1:IntKind.i64.wrap ((now.length:Int)-1)=((now.length-1:Nat):Int):=(ai (by omega) (by omega)).trans (by omega)
 have e2:=wIs la (by omega)
 have e3:((now.length-1:Nat):Int)<(now.length:Nat):=by omega
 rw[Hb hn0];rw[hf0]at hstep hfr;have hna:((nn now).all fun y=>y.cells.length==1)=true:=by unfold nn;rw[FS];exact D7.2 fun _ _=>rfl
 simp only[PV.cells]at hna;have hnE:(nn now).isEmpty=false:=by
  cases now with
  |nil=>exact absurd rfl hn0
  |cons x r=>rfl
 generalize now.length-1=nl at hlg' e1 e3;repeat with_reducible first|refine nz aa ?_|apply ny;simp only[f188,hne,hg,hlg',e1,e2,e3,EW,cz,go_sem];rfl
 refine am.keep [9,8,3,1,2] (by simp only[go_sem];rfl) ?_
 refine am.nilRow 8 26 1 (by simp only[go_sem]) (by simp only[go_sem];rfl) (by simp only[go_sem];rfl) ?_
 refine am.loop (fun i s'=>∃O:List (List Nat),T=O++(List.range' ((la+1)+i) (l.length-((la+1)+i))).flatMap (fun j=>jc l.length k (now++[j]))∧s'=⟨[(9,ii (((la+1)+i:Nat):Int)),(8,.ms 1 O.length),(3,.bp 0 0),(1,(.sl .a (nn now))),(2,ii MM)],45,[.var (plC n z l) false,.row (decide (O.length=0)) 26 1 (O.map slc) false]⟩) (l.length-(la+1)) ⟨[],hstep,rfl⟩ ?_
 rintro i _ hi ⟨O,hO,rfl⟩;by_cases hlt:i<l.length-(la+1)
 ·obtain⟨j,hj⟩:∃j,j=(la+1)+i:=⟨_,rfl⟩
  have hj2:(la+1)+(i+1)=j+1:=by omega
  have hjl:j<l.length:=by omega
  have hjl':(j:Int)<l.length:=by omega
  have e4:=wIs j (by omega)
  rw[←hj,show l.length-j=(l.length-(j+1))+1 by omega,Fd,E2]at hO
  have hrec:=hIH j hjl;generalize lzV k (jc l.length k (now++[j])).length=zz at hrec;generalize hL:jc l.length k (now++[j])=L at hO hrec;rw[←hj];have hO2:T=(O++L)++(List.range' (j+1) (l.length-(j+1))).flatMap (fun j=>jc l.length k (now++[j])):=by rw[hO,Et]
  have hTl:=congrArg List.length hO2;rw[Ea,Ea]at hTl;obtain⟨X,hX⟩:∃X,X=L.map slc:=⟨_,rfl⟩;have hXl:X.length=L.length:=by rw[hX,DX]
  have hXa:(X.all fun y=>y.cells.length==1)=true:=by
   rw[hX,FS];exact D7.2 fun _ _=>rfl
  have hst2:(O++L).map slc=O.map slc++X:=by rw[Ec,hX]
  have hst3:(O++L).length=O.length+X.length:=by rw[Ea,hXl]
  have hXb:bD 2 (O.map slc++X)=true:=by rw[←hst2];exact gi 2 _
  rw[←hX]at hrec;have q1:(O.length+X.length)*24<=140737488355328:=by omega
  have q2:O.length+X.length<=maxLen:=by unfold maxLen;omega
  have q3:now.length*8<=140737488355328:=by omega
  have q4:now.length<=maxLen:=by unfold maxLen;omega
  have q5:(now.length+1)*8<=140737488355328:=by omega
  have q6:now.length+1<=maxLen:=by unfold maxLen;omega
  have hcR:ad (nn now++[ii (j:Int)])=true:=by have:=aO (now++[j]);rw[oK,rQ]at this;exact this
  have hltb:bD 0 [PV.agg (plC n z l),.sl .a (nn now++[ii (j:Int)]),ii MM]=true:=ae 0 _ (by simp[ad,PV.closed,hc2,hcR])
  clear hX;by_cases hX0:X=[]
  ·subst hX0
   rw[Er]at hst2;have hst3:(O++L).length=O.length:=hst3;repeat with_reducible first|refine nz (aj aa (ent func188 rfl) hrec hltb) ?_|apply ny;simp only[f188,eA,hjl',hna,hnE,q3,q4,q5,q6,e4,hc2,hcn,hcR,cz,E9,Fl,go_sem];rfl
   refine ak.t 2 [9,8,3,1,2] hlt (by simp only[aK,cb,an,gi,go_sem]) ⟨O++L,by rw[hj2];exact hO2,by rw[hst2,hst3,hj2];first|(simp only[go_sem];first|done|rfl)|rfl⟩
  ·have hXe:X.isEmpty=false:=by cases X with
    |nil=>exact absurd rfl hX0
    |cons x X=>rfl
   have hXp:plain1 (.sl zz X)=false:=by cases X with
    |nil=>exact absurd rfl hX0
    |cons x X=>cases zz <;> rfl
   simp only[plain1]at hXp;simp only[PV.cells]at hXa;have hA0:decide (O.length+X.length=0)=false:=by
    have:X.length≠0:=fun e=>hX0 (Ew.1 e)
    exact Ei (by omega)
   repeat with_reducible first|refine nz (aj aa (ent func188 rfl) hrec hltb) ?_|apply ny;simp only[f188,eA,hjl',hna,hnE,q3,q4,q5,q6,hXe,hXa,hXp,q1,q2,e4,hc2,hcn,hcR,cz,E9,Fl,go_sem];rfl
   refine ak.t 2 [9,8,3,1,2] hlt (by simp only[aK,cb,an,hXb,go_sem]) ⟨O++L,by rw[hj2];exact hO2,by rw[hst2,hst3,hA0,hj2];first|(simp only[go_sem];first|done|rfl)|rfl⟩
 ·have hO':T=O:=by
   rw[hO,show l.length-((la+1)+i)=0 by omega]
   exact Er _
  subst hO';have hlt':¬(((la+1)+i:Nat):Int)<l.length:=by omega
  generalize (((la+1)+i:Nat):Int)=jj at hlt' ⊢;repeat with_reducible first|refine nz aa ?_|apply ny;simp only[f188,hlt',go_sem];rfl
  exact⟨rfl,rfl,_,rfl,leave_row (id:=1) rfl (c9 _) (DX ..).symm⟩
theorem m0(n:Nt)(z:Z)(l:List Sn)(hz:z=.n->l=[])(hl:l.length<=10):∀k,uV n z l k
 |0=>lists_0 n z l
 |k+1=>fun now hnow hlen=>by
  by_cases h:now=[]
  ·exact In n z l k hz hl (m0 n z l hz hl k) now h (by rw[h]at hlen;simp at hlen;omega)
  ·exact v6 n z l k hz hl (m0 n z l hz hl k) now h hnow hlen
theorem H7(n k:Nat):jc n k []=c7 n k 0:=by
 unfold jc;have e:(fun x:List Nat=>[]++x)=id:=rfl
 rw[e,List.map_id];rfl
def choK(l:List Sn)(k:Nat):List (List Nat):=(c7 l.length k 0).filter (chB l 0)
theorem xF(l:List Sn):nO l=((List.range (l.length+1)).reverse).flatMap (choK l):=rfl
theorem revr_get{m i:Nat}(h:i<m+1):(List.range (m+1)).reverse[i]?=some (m-i):=by
 rw[List.getElem?_reverse (by simpa using h),JZ,GP (by omega)]
 congr 1
def cfWz:CallF:=aE cf0 68 c68
theorem o9:CallFOk prog cfWz:=ah aa c68_ok
theorem Aw(n:Nt)(z:Z)(l:List Sn)(hz:z=.n->l=[])(hnof:l.map nof=l)(hl:l.length<=10):ab prog 140 [.agg (plC n z l)] [] (.ret (.sl (if decide ((nO l).length=0)=true then .n else .a) ((nO l).map slc))) []:=by
 refine ab.ofF hTT func140 rfl rfl ?_;have hdn:=dt (n:=n) hz hnof;have hc2:=ay l;have hCe:=xF l;have hrec:∀k,k<=l.length->∃zz,(zz=.n->c7 l.length k 0=[])∧ab prog 188 [.agg (plC n z l),.sl .n [],ii (k:Int)] [] (.ret (.sl zz ((c7 l.length k 0).map slc))) []:=fun k hk=>by
  have:=m0 n z l hz hl k [] (fun x hx=>by cases hx) (by simp;omega)
  rw[H7,ET,EG]at this;refine⟨_,fun e=>?_,this⟩
  cases k with
  |zero=>cases e
  |succ k =>
   have e:(if decide ((c7 l.length (k+1) 0).length=0)=true then Z.n else Z.a)=Z.n:=e;split at e
   ·rename_i h
    exact Ew.1 (Eu h)
   ·cases e
 have hcl:∀k c,c∈c7 l.length k 0->c.length<=1000:=fun k c hc=>by
  obtain⟨_,h2,h3⟩:=pj hc;have:=jG (n:=l.length) (i:=0) h2 fun x hx=>h3 x hx
  omega
 have hcn:∀k,(c7 l.length k 0).length<=1024:=fun k=>by
  have h1:=iG l.length k 0;have h2:2 ^ (l.length-0)<=2 ^ 10:=FA (by decide) (by omega)
  omega
 generalize nO l=H at hCe ⊢;have hKd:∀k,choK l k=(c7 l.length k 0).filter (chB l 0):=fun k=>rfl
 generalize choK l=FK at hCe hKd;repeat with_reducible first|refine nz aa ?_|apply ny;simp only[f140,go_sem];rfl
 refine am.keep [4,3,1] (by simp only[go_sem];rfl) ?_
 refine am.nilRow 3 26 1 (by simp only[go_sem]) (by simp only[go_sem];rfl) (by simp only[go_sem];rfl) ?_
 refine am.loop (fun i s'=>∃O:List (List Nat),H=O++((List.range (l.length+1)).reverse.drop i).flatMap FK∧O.length<=1024*i∧s'=⟨[(4,ii ((l.length:Int)-(i:Int))),(3,.ms 1 O.length),(1,.bp 0 0)],37,[.var (plC n z l) false,.row (decide (O.length=0)) 26 1 (O.map slc) false]⟩) (l.length+1) ⟨[],hCe,Ee _,by first|(simp only[Int.sub_zero,go_sem];first|done|rfl)|rfl⟩ ?_
 rintro i _ hi ⟨O,hO,hOl,rfl⟩;by_cases hlt:i<l.length+1
 ·have hr:=revr_get (m:=l.length) hlt
  rw[kg hr,hKd]at hO;have hki:(l.length:Int)-(i:Int)=((l.length-i:Nat):Int):=by omega
  have e4:IntKind.i64.wrap (((l.length-i:Nat):Int)-1)=(l.length:Int)-((i+1:Nat):Int):=(ai (by omega) (by omega)).trans (by omega)
  have hk0:(0:Int)<=((l.length-i:Nat):Int):=by omega
  obtain⟨zz,hzz,hre⟩:=hrec (l.length-i) (by omega)
  have hcl':=hcl (l.length-i);have hcn':=hcn (l.length-i);rw[hki];generalize l.length-i=k at hO e4 hk0 hre hcl' hcn' hzz;generalize c7 l.length k 0=L at hO hre hcl' hcn' hzz;have hltb:bD 0 [PV.agg (plC n z l),.sl .n [],ii (k:Int)]=true:=ae 0 _ (by simp[ad,PV.closed,hc2])
  repeat with_reducible first|refine nz (aj aa (ent func188 rfl) hre hltb) ?_|apply ny;simp only[f140,eA,hk0,hc2,EO,go_sem];rfl
  refine am.keep [6,5,4,3,1] (by simp only[go_sem];rfl) ?_
  refine am.loop (fun j s'=>∃P:List (List Nat),H=P++((L.drop j).filter (chB l 0)++((List.range (l.length+1)).reverse.drop (i+1)).flatMap FK)∧P.length<=1024*i+j∧s'=⟨[(6,ii (j:Int)),(5,.sl zz (L.map slc)),(4,ii (k:Int)),(3,.ms 1 P.length),(1,.bp 0 0)],37,[.var (plC n z l) false,.row (decide (P.length=0)) 26 1 (P.map slc) false]⟩) L.length ⟨O,hO,hOl,rfl⟩ ?_
  rintro j _ hj ⟨P,hP,hPl,rfl⟩;by_cases hjl:j<L.length
  ·obtain⟨c,hc⟩:=gex hjl
   have hc':(L.map slc)[j]?=some (slc c):=aw hc;have hjl':(j:Int)<L.length:=by omega
   have hzn:zz≠.n:=fun e=>by rw[hzz e]at hjl;simp at hjl
   have hdc:=qt c;have hcc:=kp c;have hcl1:=hcl' c (DU hc);have hl10:l.length<=1000:=by omega
   have e5:=wIs j (by omega)
   have m1:P.length+1<=maxLen:=by unfold maxLen;omega
   have m2:(P.length+1)*24<=140737488355328:=by omega
   have hd1:decide (P.length+1=0)=false:=by simp
   have hsc:slc c=.sl (if c=[]then .n else .a) (nn c):=rfl;have hcc2:=aO c;rw[aP hc,EZ]at hP;rw[hsc]at hc' hdc;generalize hz2:(if c=[]then Z.n else Z.a)=z2 at hc' hdc hsc;cases hch:chB l 0 c
   ·rw[hch]at hP
    simp only[E8,Gt]at hP;repeat with_reducible first|refine nz o9 ?_|apply ny;simp only[f140,cfWz,c68,hdn,hdc,hc',hjl',hzn,hch,hcl1,hl10,hc2,hcc2,e5,go_sem];rfl
    refine ak.t 2 [6,5,4,3,1] hjl (by simp only[aK,an,gi,go_sem]) ⟨P,hP,by omega,by first|(simp only[go_sem];first|done|rfl)|rfl⟩
   ·rw[hch]at hP
    simp only[Fy]at hP;have hP:H=(P++[c])++((L.drop (j+1)).filter (chB l 0)++((List.range (l.length+1)).reverse.drop (i+1)).flatMap FK):=by rw[hP];simp
    repeat with_reducible first|refine nz o9 ?_|apply ny;simp only[f140,cfWz,c68,hdn,hdc,hc',hjl',hzn,hch,hcl1,hl10,hc2,hcc2,e5,m1,m2,go_sem];rfl
    refine ak.t 2 [6,5,4,3,1] hjl (by simp only[aK,an,gi,cb,bJ,go_sem]) ⟨P++[c],hP,by simp;omega,by rw[Ec,Ea];first|(simp only[hd1,hsc,go_sem];first|done|rfl)|rfl⟩
  ·have hjl':¬(j:Int)<L.length:=by omega
   rw[Ef (by omega)]at hP
   have hP:H=P++((List.range (l.length+1)).reverse.drop (i+1)).flatMap FK:=hP;repeat with_reducible first|refine nz aa ?_|apply ny;simp only[f140,hjl',e4,go_sem];rfl
   refine ak.t 2 [4,3,1] hlt (by simp only[aK,an,gi,go_sem]) ⟨P,hP,by omega,by first|(simp only[go_sem];first|done|rfl)|rfl⟩
 ·obtain rfl:i=l.length+1:=by omega
  rw[Ef (by simp)]at hO
  have hO:H=O:=by rw[hO];exact Er _
  subst hO;have hk0:¬(0:Int)<=(l.length:Int)-((l.length+1:Nat):Int):=by omega
  repeat with_reducible first|refine nz aa ?_|apply ny;simp only[f140,hk0,EO,go_sem];rfl
  exact⟨rfl,rfl,_,rfl,leave_row (id:=1) rfl (c9 _) (DX ..).symm⟩
end Go.Pv
