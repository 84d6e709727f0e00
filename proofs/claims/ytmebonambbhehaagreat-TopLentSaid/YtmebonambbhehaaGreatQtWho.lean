import Derived.Test.YtmebonambbhehaaGreatQtHid
set_option linter.all false
open Go.Proofs.Tryz
namespace Go.Pv
open Go Go.RowKit Go.Proofs
set_option maxRecDepth 200000
set_option maxHeartbeats 8000000
theorem N4:cpv (.map none)=some .nilm:=rfl
attribute [go_sem] N4
open Classical in
noncomputable def c78v(v:PV)(a b:Int):List PV->List Box->Option (PRes×List Box)
 |[w,.int .i64 k],sg=>if w=v then(if k=0 then some (.ret (ii a),sg)else if k=1 then some (.ret (ii b),sg)else none)else none
 |_,_=>none
theorem c78v_ok{v:PV}{a b:Int}(hv:v.ltB 0=true)(h0:ab prog 78 [v,ii 0] [] (.ret (ii a)) [])(h1:ab prog 78 [v,ii 1] [] (.ret (ii b)) []):dU prog 78 (c78v v a b):=dU.of0 (ent func78 rfl) fun args sg r sg' e=>by
 unfold c78v at e;split at e <;> try (cases e;done)
 split at e <;> try (cases e;done)
 rename_i hw;subst hw;split at e
 ·rename_i hk
  cases e;subst hk;exact⟨_,rfl,rfl,by rw[af,hv];rfl,h0⟩
 ·split at e <;> cases e
  rename_i hk;subst hk;exact⟨_,rfl,rfl,by rw[af,hv];rfl,h1⟩
theorem least_53{r:Rg}{n:Nat}{q:Qi}{z:Z}{f:List Int}(h:FdOk r n q z f)(hr:RtOk r):ab prog 53 [.agg (fdC r (n:Nat) z f)] [] (.ret (ii (MQ r q.2 f))) []:=by
 refine ab.of0 hTT func53 rfl rfl ?_;have hck:=cV r.kinds;have hch:=nB r.hides;have hcf:=cV f;have f0:ab prog 78 [.agg (fdC r (n:Nat) z f),ii 0] [] (.ret (ii (NQ r q.2 f 0))) []:=MW h hr 0 (by decide)
 have f1:ab prog 78 [.agg (fdC r (n:Nat) z f),ii 1] [] (.ret (ii (NQ r q.2 f 1))) []:=MW h hr 1 (by decide)
 have b0:=My r q.2 f 0 (l:=LB (Ol r 0)) (o:=6) (by omega) (by omega)
 have b1:=My r q.2 f 1 (l:=LB (Ol r 1)) (o:=6) (by omega) (by omega)
 have b0:0<=NQ r q.2 f 0∧NQ r q.2 f 0<=6:=b0;have b1:0<=NQ r q.2 f 1∧NQ r q.2 f 1<=6:=b1;have hb0:(PV.agg (fdC r (n:Nat) z f)).ltB 0=true:=bq 0 _ (MI r (n:Nat) z f);have h10:((1:Int)=0)=False:=by simp
 unfold MQ;generalize NQ r q.2 f 0=a at f0 b0 ⊢;generalize NQ r q.2 f 1=b at f1 b1 ⊢;have hs:zF [a,b]=a+b:=by show a+(b+0)=_;omega
 have h77:ab prog 77 [.sl .f [ii a,ii b]] [] (.ret (ii (zF [a,b]))) []:=sum_77 .f [a,b] rfl (by simp) fun y hy=>by
  simp only[D6,Eb,EM]at hy;rcases hy with rfl|rfl <;> omega
 rw[hs]at h77;repeat with_reducible first|refine nz (aj (ah aa (c78v_ok hb0 f0 f1)) (ent func77 rfl) h77 rfl) ?_|apply ny;simp only[f53,aE,eA,c78v,h10,hck,hch,hcf,go_sem];rfl
 exact⟨rfl,rfl,_,rfl,rfl⟩
def nnL(c:List Nat):List PV:=c.map fun n:Nat=>ii (n:Int)
def mvL(c:List Nat):List PV:=c.map fun _=>.agg []
theorem LL(c:List Nat):ad (nnL c)=true:=aY (fun _=>rfl) c
theorem LN(c:List Nat):ad (mvL c)=true:=aY (fun _=>rfl) c
theorem L7(m:Nat)(c:List Nat):bD m (nnL c)=true:=ae m _ (LL c)
theorem Mh(m:Nat)(c:List Nat):bD m (mvL c)=true:=ae m _ (LN c)
theorem eqIL(a b:Int):eqT (TT 3) (ii a) (ii b)=some ((a==b)&&true):=by kernel_rfl
theorem keyIL(x:Int):eP (TT 3) (ii x)=true:=by kernel_rfl
theorem LQ(x:Int):∀(c:List Nat) (j:Nat),(∀y∈c,(y:Int)≠x)->e9 (TT 3) (ii x) (nnL c) j=some none
 |[],_,_=>rfl
 |b::c,j,h=>by
  have h1:((x==(b:Int))&&true)=false:=by
   rw[Fi,EF];exact fun e=>h b DV e.symm
  show(match eqT (TT 3) (ii x) (ii (b:Int)),e9 (TT 3) (ii x) (nnL c) (j+1)with
   |some true,some none=>some (some j)
   |some false,r=>r
   |_,_=>none)=some none
  rw[eqIL,h1,LQ x c (j+1) fun y hy=>h y (DW _ hy)]
theorem Nv(x:Nat):∀(c:List Nat) (j:Nat),c.Nodup->x∈c->∃k,e9 (TT 3) (ii (x:Int)) (nnL c) j=some (some (j+k))∧k<c.length
 |[],_,_,h=>by cases h
 |b::c,j,hn,h=>by
  obtain⟨n1,n2⟩:=Gc.1 hn;have hd:e9 (TT 3) (ii (x:Int)) (nnL (b::c)) j=(match eqT (TT 3) (ii (x:Int)) (ii (b:Int)),e9 (TT 3) (ii (x:Int)) (nnL c) (j+1)with
   |some true,some none=>some (some j)
   |some false,r=>r
   |_,_=>none):=rfl
  by_cases hb:x=b
  ·subst hb
   refine⟨0,?_,by simp⟩
   rw[hd,eqIL,Fe,LQ (x:Int) c (j+1) fun y hy e=>n1 (by rw[←Int.ofNat.inj e];exact hy)]
   rfl
  ·have hxc:x∈c:=by
    rcases D6.1 h with h|h
    ·exact absurd h hb
    ·exact h
   obtain⟨k,e1,e2⟩:=Nv x c (j+1) n2 hxc;have h1:(((x:Int)==(b:Int))&&true)=false:=by
    rw[Fi,EF];omega
   refine⟨k+1,?_,by rw[Ek];omega⟩
   rw[hd,eqIL,h1,e1];show some (some (j+1+k))=some (some (j+(k+1)));rw[show j+1+k=j+(k+1)by omega]
theorem mvL_get{c:List Nat}{k:Nat}(h:k<c.length):(mvL c)[k]?=some (.agg []):=by unfold mvL;rw[Eh,DT h];rfl
theorem nnL_len(c:List Nat):(nnL c).length=c.length:=DX ..
theorem MR(r:Rg)(f:List Int)(n:Nat):(gb r f n).Nodup:=List.Nodup.sublist List.filter_sublist List.nodup_range
theorem N2{r:Rg}{f:List Int}{n x:Nat}(h:x∈gb r f n):x<n:=FJ.1 (Gd.1 h).1
theorem NM(r:Rg)(f:List Int)(n:Nat):(gb r f n).length<=n:=by
 have:=Fh (OK r f) (List.range n)
 rw[List.length_range]at this;exact this
structure RfOk(r:Rg)(z:Z)(f:List Int):Prop where
 ok:r.ok=true
 rg:rgBL r=true
 fd:findB r f=true
 hz:zOk z (f.map ii)=true
theorem RfOk.fdOk{r:Rg}{z:Z}{f:List Int}(h:RfOk r z f){n:Nat}{q:Qi}(hq:r.hides[n]?=some q):FdOk r n q z f:=by
 obtain⟨h1,h2,h3,h4,h5,h6,h7,h8⟩:=L5 h.rg;have hf:=h.fd;unfold findB at hf;rw[D3,Eo]at hf;have hqm:=h4 q (DU hq);unfold LO at hqm;rw[D3,Eo,D7]at hqm;have k1:=bm.1 h1;have k7:=bm.1 h7;exact⟨h.ok,hq,hqm.1,hf.1,h.hz,fun s hs=>by have:=bm.1 (hqm.2 s hs);omega,by omega,by omega,fun k hk=>by
  have:=h3 k hk
  unfold LT at this;rw[Fk,Eo,Eo]at this
  omega⟩
theorem RfOk.rtOk{r:Rg}{z:Z}{f:List Int}(h:RfOk r z f):RtOk r:=by
 obtain⟨_,_,_,_,h5,h6,_,_⟩:=L5 h.rg;unfold Lw at h5 h6;rw[D3,D3]at h5 h6;have a1:=bm.1 h5.1.1;have a2:=bm.1 h5.1.2;have a3:=bm.1 h6.1.1;have a4:=bm.1 h6.1.2;exact⟨by omega,by omega⟩
theorem hides_27{r:Rg}{z:Z}{f:List Int}(h:RfOk r z f):ab prog 27 [.agg r.cells,.sl z (f.map ii)] [] (.ret (.im (nnL (gb r f r.hides.length)) (mvL (gb r f r.hides.length)))) []:=by
 refine ab.ofF hTT func27 rfl rfl ?_;have hck:=cV r.kinds;have hch:=nB r.hides;have hcf:=cV f;have hko:=keyIL;have hfn:=LQ;rw[T_3]at hko hfn;obtain⟨_,h2,_,_,_,_,_,_⟩:=L5 h.rg;have k2:=bm.1 h2;have h0:gb r f 0=[]:=rfl;repeat with_reducible first|refine nz aa ?_|apply ny;simp only[f27,lD,hck,hch,go_sem];rfl
 refine am.keep [11,10,5,2,1] (by simp only[go_sem];rfl) ?_
 refine am.loop (fun i s'=>s'=⟨[(11,ii (i:Nat)),(10,ii (r.hides.length:Nat)),(5,.mp 1),(2,.bp 0 0),(1,.sl z (f.map ii))],27,[.var r.cells false,.map (nnL (gb r f i)) (mvL (gb r f i)) false]⟩) r.hides.length rfl ?_
 rintro i _ hi rfl;by_cases hlt:i<r.hides.length
 ·obtain⟨q,hq⟩:=gex hlt
  have hlt':(i:Int)<r.hides.length:=by omega
  have e4:=wIs i (by omega)
  have h53:=least_53 (h.fdOk hq) h.rtOk;have hbt:bD 0 [PV.agg (fdC r (i:Nat) z f)]=true:=ae 0 _ (by simp[ad,PV.closed,nB,cV])
  have hm:OK r f i=decide (MQ r q.2 f<=r.mends):=by
   unfold OK;rw[Ep,hq];rfl
  have hst:=Nb r f i;rw[hm]at hst;have hf:=hfn (i:Int) (gb r f i) 0 fun y hy e=>by have:=N2 hy;omega
  have hk:=hko (i:Int);generalize MQ r q.2 f=c at h53 hst;by_cases hc:c<=r.mends
  ·rw[DZ (Ej hc)]at hst
   have hs1:nnL (gb r f (i+1))=nnL (gb r f i)++[ii (i:Int)]:=by rw[hst];unfold nnL;rw[Ec];rfl
   have hs2:mvL (gb r f (i+1))=mvL (gb r f i)++[.agg []]:=by rw[hst];unfold mvL;rw[Ec];rfl
   have ha:=L7 2 (gb r f (i+1));have hb:=Mh 2 (gb r f (i+1));rw[hs1]at ha;rw[hs2]at hb;generalize nnL (gb r f i)=A at hs1 hf ha;generalize mvL (gb r f i)=B at hs2 hb;repeat with_reducible first|refine nz (aj aa (ent func53 rfl) h53 hbt) ?_|apply ny;simp only[f27,eA,hlt',hc,e4,cN,xc,hf,hk,hck,hch,hcf,go_sem];rfl
   refine ak.t 2 [11,10,5,2,1] hlt (by simp only[aF,vh,ha,hb,go_sem]) (by rw[hs1,hs2];first|(simp only[go_sem];first|done|rfl)|rfl)
  ·rw[D5 (by simpa using hc),Er]at hst
   have hs1:nnL (gb r f (i+1))=nnL (gb r f i):=by rw[hst]
   have hs2:mvL (gb r f (i+1))=mvL (gb r f i):=by rw[hst]
   have ha:=L7 2 (gb r f i);have hb:=Mh 2 (gb r f i);generalize nnL (gb r f i)=A at hs1 hf ha;generalize mvL (gb r f i)=B at hs2 hb;repeat with_reducible first|refine nz (aj aa (ent func53 rfl) h53 hbt) ?_|apply ny;simp only[f27,eA,hlt',hc,e4,hck,hch,hcf,go_sem];rfl
   refine ak.t 2 [11,10,5,2,1] hlt (by simp only[aF,vh,ha,hb,go_sem]) (by rw[hs1,hs2];first|(simp only[go_sem];first|done|rfl)|rfl)
 ·have hlt':¬(i:Int)<r.hides.length:=by omega
  have e:i=r.hides.length:=by omega
  subst e;repeat with_reducible first|refine nz aa ?_|apply ny;simp only[f27,hlt',go_sem];rfl
  exact⟨rfl,rfl,_,rfl,leave_mp (id:=1) rfl (LL _) (LN _)⟩
def whoV(r:Rg)(f:List Int):PV:=if(gb r f r.hides.length).length=0 then .tuple [.sl .n [],ii 7]else .tuple [.sl .a ((whoR r f).map ii),ii 0]
def whoT(r:Rg)(f:List Int)(i:Nat):List Int:=(List.range i).map (wordR r f)
theorem N3(r:Rg)(f:List Int)(i:Nat):whoT r f (i+1)=whoT r f i++[wordR r f i]:=by
 unfold whoT;rw[List.range_succ,Ec];rfl
theorem Np(r:Rg)(f:List Int)(i:Nat):(whoT r f i).length=i:=by unfold whoT;simp
theorem Who_8{r:Rg}{z:Z}{f:List Int}(h:RfOk r z f):ab prog 8 [.agg r.cells,.sl z (f.map ii)] [] (.ret (whoV r f)) []:=by
 refine ab.ofF hTT func8 rfl rfl ?_;have hck:=cV r.kinds;have hch:=nB r.hides;have hcf:=cV f;have hko:=keyIL;have hfn:=LQ;have hfi:=Nv;rw[T_3]at hko hfn hfi;obtain⟨h1,h2,_,_,_,_,_,_⟩:=L5 h.rg;have k1:=bm.1 h1;have k2:=bm.1 h2;have h25:=ME r h.ok h.rg;have h26:=Of r z f h.hz h.fd (by omega)
 have h27:=hides_27 h;have hbt:bD 0 [PV.agg r.cells]=true:=ae 0 _ (by simp[ad,PV.closed,nB,cV])
 have hbt2:bD 0 [PV.agg r.cells,.sl z (f.map ii)]=true:=ae 0 _ (by simp[ad,PV.closed,nB,cV])
 have hll:=NM r f r.hides.length;have hnd:=MR r f r.hides.length;have hwd:∀i,wordR r f i=if OK r f i=true then(if(gb r f r.hides.length).length=1 then 3 else 2)else 1:=fun i=>rfl
 have hmem:∀i,i<r.hides.length->(i∈gb r f r.hides.length↔OK r f i=true):=fun i hi=>NN r f hi
 have hw0:whoT r f 0=[]:=rfl;have hwn:whoR r f=whoT r f r.hides.length:=rfl;unfold whoV;rw[hwn];generalize gb r f r.hides.length=H at h27 hll hnd hwd hmem ⊢;have hcn:=LL H;have hcm:=LN H;have hnl:=nnL_len H;have hml:H.length<=maxLen:=by unfold maxLen;omega
 by_cases hz0:H.length=0
 ·have hz1:((H.length:Int)==0)=true:=by simp[hz0]
  rw[DZ hz0];repeat with_reducible first|refine nz (aj (aj (aj aa (ent func25 rfl) h25 hbt) (ent func26 rfl) h26 hbt2) (ent func27 rfl) h27 hbt2) ?_|apply ny;simp only[f8,eA,bl,hck,hch,hcf,hcn,hcm,hnl,hml,hz1,go_sem];rfl
  exact⟨rfl,rfl,_,rfl,aq rfl⟩
 ·have hz1:((H.length:Int)==0)=false:=by rw[EF];omega
  rw[D5 hz0];repeat with_reducible first|refine nz (aj (aj (aj aa (ent func25 rfl) h25 hbt) (ent func26 rfl) h26 hbt2) (ent func27 rfl) h27 hbt2) ?_|apply ny;simp only[f8,eA,bl,hck,hch,hcf,hcn,hcm,hnl,hml,hz1,go_sem];rfl
  refine am.keep [30,29,7,6,5,4,2] (by simp only[go_sem];rfl) ?_
  refine am.nilRow 7 42 1 (by simp only[go_sem]) (by simp only[go_sem];rfl) (by simp only[go_sem];rfl) ?_
  refine am.loop (fun i s'=>s'=⟨[(30,ii (i:Nat)),(29,ii (r.hides.length:Nat)),(7,.ms 1 i),(6,.im (nnL H) (mvL H)),(5,ii 0),(4,.sl .n []),(2,.bp 0 0)],49,[.var r.cells false,.row (decide (i=0)) 42 1 ((whoT r f i).map ii) false]⟩) r.hides.length (by first|(simp only[hw0,go_sem];first|done|rfl)|rfl) ?_
  rintro i _ hi rfl;by_cases hlt:i<r.hides.length
  ·have hlt':(i:Int)<r.hides.length:=by omega
   have e4:=wIs i (by omega)
   have q1:(i+1)*8<=140737488355328:=by omega
   have q2:i+1<=maxLen:=by unfold maxLen;omega
   have hd1:decide (i+1=0)=false:=by simp
   have hk:=hko (i:Int);have hst:=N3 r f i;have hrl:=Np r f i;have hwi:=hwd i;have hmi:=hmem i hlt;generalize whoT r f i=A at hst hrl ⊢;by_cases hin:OK r f i=true
   ·rw[DZ hin]at hwi
    obtain⟨k,hf,hkl⟩:=hfi i H 0 hnd (hmi.2 hin);rw[EG]at hf;have hv:=mvL_get hkl;by_cases h1l:H.length=1
    ·rw[DZ h1l]at hwi
     rw[hwi]at hst;have h1e:((H.length:Int)==1)=true:=by simp[h1l]
     repeat with_reducible first|refine nz aa ?_|apply ny;simp only[f8,hlt',e4,q1,q2,hrl,eI,xc,hf,hk,hv,hnl,hml,h1e,hcn,hcm,hck,hch,go_sem];rfl
     refine ak.t 2 [30,29,7,6,5,4,2] hlt (by simp only[aF,vh,bJ,L7,Mh,go_sem]) (by rw[hst,hd1];simp only[Ec,go_sem])
    ·rw[D5 h1l]at hwi
     rw[hwi]at hst;have h1e:((H.length:Int)==1)=false:=by rw[EF];omega
     repeat with_reducible first|refine nz aa ?_|apply ny;simp only[f8,hlt',e4,q1,q2,hrl,eI,xc,hf,hk,hv,hnl,hml,h1e,hcn,hcm,hck,hch,go_sem];rfl
     refine ak.t 2 [30,29,7,6,5,4,2] hlt (by simp only[aF,vh,bJ,L7,Mh,go_sem]) (by rw[hst,hd1];simp only[Ec,go_sem])
   ·rw[D5 hin]at hwi
    rw[hwi]at hst;have hf:=hfn (i:Int) H 0 fun y hy e=>hin (hmi.1 (by rw[←Int.ofNat.inj e];exact hy))
    repeat with_reducible first|refine nz aa ?_|apply ny;simp only[f8,hlt',e4,q1,q2,hrl,eI,xc,hf,hk,hnl,hml,hcn,hcm,hck,hch,go_sem];rfl
    refine ak.t 2 [30,29,7,6,5,4,2] hlt (by simp only[aF,vh,bJ,L7,Mh,go_sem]) (by rw[hst,hd1];simp only[Ec,go_sem])
  ·have hlt':¬(i:Int)<r.hides.length:=by omega
   have e:i=r.hides.length:=by omega
   subst e;have hn0:decide (r.hides.length=0)=false:=Ei (by omega)
   rw[hn0];repeat with_reducible first|refine nz aa ?_|apply ny;simp only[f8,hlt',hck,hch,hcn,hcm,go_sem];rfl
   exact⟨rfl,rfl,_,rfl,oG (id:=1) (z:=false) rfl (cV _) (by rw[DX,Np]) rfl⟩
theorem in_17(x a b:Int):ab prog 17 [ii x,ii a,ii b] [] (.ret (.bool (inB x a b))) []:=by
 refine ab.of0 hTT func17 rfl rfl ?_;unfold inB;by_cases h1:a<=x
 ·by_cases h2:x<=b
  all_goals
   repeat with_reducible first|refine nz aa ?_|apply ny;simp only[f17,h1,h2,EO,go_sem];rfl
   exact⟨rfl,rfl,_,rfl,by simp[h1,h2];rfl⟩
 ·repeat with_reducible first|refine nz aa ?_|apply ny;simp only[f17,h1,EO,go_sem];rfl
  exact⟨rfl,rfl,_,rfl,by simp[h1];rfl⟩
theorem cin17_ok:dU prog 17 cin:=dU.of0 (ent func17 rfl) fun args sg r sg' h=>by
 unfold cin at h;split at h <;> cases h
 exact⟨_,rfl,rfl,rfl,in_17 _ _ _⟩
def MO:CallF:=aE cf0 17 cin
theorem rn:CallFOk prog MO:=ah aa cin17_ok
theorem span_18(s:Int×Int):ab prog 18 [.agg [ii s.1,ii s.2]] [] (.ret (.bool (Lw s))) []:=by
 refine ab.of0 hTT func18 rfl rfl ?_;unfold Lw;cases h1:inB s.1 700 1300
 ·repeat with_reducible first|refine nz rn ?_|apply ny;simp only[f18,MO,cin,h1,go_sem];rfl
  exact⟨rfl,rfl,_,rfl,rfl⟩
 cases h2:inB s.2 s.1 1300
 ·repeat with_reducible first|refine nz rn ?_|apply ny;simp only[f18,MO,cin,h1,h2,go_sem];rfl
  exact⟨rfl,rfl,_,rfl,rfl⟩
 have k1:=bm.1 h1;have k2:=bm.1 h2;have e1:IntKind.i64.wrap (s.2-s.1)=s.2-s.1:=ai (by omega) (by omega)
 by_cases h3:s.2-s.1<=40
 ·rw[Ej h3]
  repeat with_reducible first|refine nz rn ?_|apply ny;simp only[f18,MO,cin,h1,h2,h3,e1,go_sem];rfl
  exact⟨rfl,rfl,_,rfl,rfl⟩
 ·rw[Ei h3]
  repeat with_reducible first|refine nz rn ?_|apply ny;simp only[f18,MO,cin,h1,h2,h3,e1,go_sem];rfl
  exact⟨rfl,rfl,_,rfl,rfl⟩
def c18:Tb_
 |[.agg [.int .i64 a,.int .i64 b]],sg=>some (.ret (.bool (Lw (a,b))),sg)
 |_,_=>none
theorem c18_ok:dU prog 18 c18:=dU.of0 (ent func18 rfl) fun args sg r sg' h=>by
 unfold c18 at h;split at h <;> cases h
 exact⟨_,rfl,rfl,rfl,span_18 (_,_)⟩
def OJ:CallF:=aE MO 18 c18
theorem LZ:CallFOk prog OJ:=ah rn c18_ok
theorem Find_5(r:Rg)(z:Z)(f:List Int)(hz:zOk z (f.map ii)=true):ab prog 5 [.agg r.cells,.sl z (f.map ii)] [] (.ret (.bool (findB r f))) []:=by
 refine ab.ofRep (by simp) fun G us hR=>?_
 have hfl:f.length<=maxLen:=by
  have hs:∃u,us[1]?=some u:=by
   have:=hR.1
   exact⟨_,ED (by rw[this];show 1<2;decide)⟩
  obtain⟨u,hu⟩:=hs;have:=Rep.lenSl (hR.2 1 (.sl z (f.map ii)) u rfl hu)
  rwa [DX]at this
 clear hR;have hmx:f.length<=9223372036854775807:=by unfold maxLen at hfl;omega
 refine ab.of0 hTT func5 rfl rfl ?_;have hck:=cV r.kinds;have hch:=nB r.hides;have hd0:findB r f=(((f.drop 0).all fun n=>inB n (-1) 1000)&&decide (f.length=r.kinds.length)):=by
  unfold findB;rw[GS,Bool.and_comm]
 generalize findB r f=d at hd0 ⊢;repeat with_reducible first|refine nz aa ?_|apply ny;simp only[f5,hck,hch,go_sem];rfl
 refine am.keep [5,4,2,1] (by simp only[go_sem];rfl) ?_
 refine am.loop (fun i s'=>d=(((f.drop i).all fun n=>inB n (-1) 1000)&&decide (f.length=r.kinds.length))∧s'=⟨[(5,ii (i:Nat)),(4,.bool false),(2,.bp 0 0),(1,.sl z (f.map ii))],24,[.var r.cells false]⟩) f.length ⟨hd0,by first|(simp only[go_sem];first|done|rfl)|rfl⟩ ?_
 clear hd0;rintro i _ hi ⟨hd',rfl⟩;by_cases hlt:i<f.length
 ·obtain⟨x,hx⟩:=gex hlt
  have hx':(f.map ii)[i]?=some (ii x):=aw hx;have hlt':(i:Int)<f.length:=by omega
  have hz':z≠.n:=fun e=>by rw[bd hz e]at hlt;simp at hlt
  have e4:=wIs i (by omega)
  rw[F1 hx]at hd';cases hb:inB x (-1) 1000
  ·rw[hb,Gj,Gj]at hd'
   rw[hd'];repeat with_reducible first|refine nz rn ?_|apply ny;simp only[f5,MO,cin,hx',hlt',hz',hb,go_sem];rfl
   exact⟨rfl,rfl,_,rfl,rfl⟩
  ·rw[hb,EJ]at hd'
   repeat with_reducible first|refine nz rn ?_|apply ny;simp only[f5,MO,cin,hx',hlt',hz',hb,e4,go_sem];rfl
   refine ak.t 1 [5,4,2,1] hlt (by simp only[aF,vh,go_sem]) ⟨hd',rfl⟩
 ·have hlt':¬(i:Int)<f.length:=by omega
  rw[Ln (by omega),EJ]at hd'
  rw[hd'];by_cases h:f.length=r.kinds.length
  ·have h':((f.length:Int)==(r.kinds.length:Int))=true:=by rw[h];simp
   rw[Ej h];repeat with_reducible first|refine nz aa ?_|apply ny;simp only[f5,h',hlt',go_sem];rfl
   exact⟨rfl,rfl,_,rfl,rfl⟩
  ·have h':((f.length:Int)==(r.kinds.length:Int))=false:=by rw[EF];omega
   rw[Ei h];repeat with_reducible first|refine nz aa ?_|apply ny;simp only[f5,h',hlt',go_sem];rfl
   exact⟨rfl,rfl,_,rfl,rfl⟩
theorem NK(r:Rg)(hok:r.ok=true)(hk:r.kinds.length<=1000)(hh:r.hides.length<=1000):ab prog 4 [.agg r.cells] [] (.ret (.bool (rgBL r))) []:=by
 refine ab.of0 hTT func4 rfl rfl ?_;have hck:=cV r.kinds;have hch:=nB r.hides;cases h1:inB (r.kinds.length:Int) 1 6
 ·have hd:rgBL r=false:=by unfold rgBL;rw[h1];rfl
  rw[hd];repeat with_reducible first|refine nz rn ?_|apply ny;simp only[f4,MO,cin,h1,hck,hch,go_sem];rfl
  exact⟨rfl,rfl,_,rfl,rfl⟩
 cases h2:inB (r.hides.length:Int) 1 6
 ·have hd:rgBL r=false:=by unfold rgBL;rw[h1,h2];rfl
  rw[hd];repeat with_reducible first|refine nz rn ?_|apply ny;simp only[f4,MO,cin,h1,h2,hck,hch,go_sem];rfl
  exact⟨rfl,rfl,_,rfl,rfl⟩
 have k1:=bm.1 h1;obtain⟨tl,htl⟩:∃tl,tl=(Lw r.al&&(Lw r.ac&&(inB r.off 1 5&&inB r.mends 0 2))):=⟨_,rfl⟩;have hd0:rgBL r=((r.kinds.drop 0).all LT&&((r.hides.all (LO r.kinds.length))&&tl)):=by
  unfold rgBL;rw[h1,h2,htl,GS];simp only[EJ,ON]
 generalize rgBL r=d at hd0 ⊢;repeat with_reducible first|refine nz rn ?_|apply ny;simp only[f4,MO,cin,h1,h2,hck,hch,go_sem];rfl
 refine am.keep [3,2,1] (by simp only[go_sem];rfl) ?_
 refine am.loop (fun i s'=>d=((r.kinds.drop i).all LT&&((r.hides.all (LO r.kinds.length))&&tl))∧s'=⟨[(3,ii (i:Nat)),(2,.bool false),(1,.bp 0 0)],94,[.var r.cells false]⟩) r.kinds.length ⟨hd0,by first|(simp only[go_sem];first|done|rfl)|rfl⟩ ?_
 clear hd0;rintro i _ hi ⟨hd,rfl⟩;by_cases hlt:i<r.kinds.length
 ·obtain⟨x,hx⟩:=gex hlt
  have hx':(r.kinds.map ii)[i]?=some (ii x):=aw hx;have hlt':(i:Int)<r.kinds.length:=by omega
  have hz':r.zk≠.n:=fun e=>by rw[bd (Rg.ok_k hok) e]at hlt;simp at hlt
  have e4:=wIs i (by omega)
  rw[F1 hx]at hd;by_cases hx1:x=1
  ·have n1:(x != 1)=false:=by simp[hx1]
   have hkb:LT x=true:=by unfold LT;simp[hx1]
   rw[hkb,EJ]at hd;repeat with_reducible first|refine nz aa ?_|apply ny;simp only[f4,hx',hlt',hz',n1,e4,hck,hch,go_sem];rfl
   refine ak.t 1 [3,2,1] hlt (by simp only[aF,vh,go_sem]) ⟨hd,rfl⟩
  ·have n1:(x != 1)=true:=by simp[hx1]
   by_cases hx2:x=2
   ·have n2:(x != 2)=false:=by simp[hx2]
    have hkb:LT x=true:=by unfold LT;simp[hx2]
    rw[hkb,EJ]at hd;repeat with_reducible first|refine nz aa ?_|apply ny;simp only[f4,hx',hlt',hz',n1,n2,e4,hck,hch,go_sem];rfl
    refine ak.t 1 [3,2,1] hlt (by simp only[aF,vh,go_sem]) ⟨hd,rfl⟩
   ·have n2:(x != 2)=true:=by simp[hx2]
    have hkb:LT x=false:=by unfold LT;simp[hx1,hx2]
    rw[hkb,Gj,Gj]at hd;rw[hd];repeat with_reducible first|refine nz aa ?_|apply ny;simp only[f4,hx',hlt',hz',n1,n2,e4,hck,hch,go_sem];rfl
    exact⟨rfl,rfl,_,rfl,rfl⟩
 ·have hlt':¬(i:Int)<r.kinds.length:=by omega
  have hd:d=((r.hides.drop 0).all (LO r.kinds.length)&&tl):=by rw[hd,Ln (by omega),EJ,GS]
  repeat with_reducible first|refine nz aa ?_|apply ny;simp only[f4,hlt',hck,hch,go_sem];rfl
  refine am.keep [4,2,1] (by simp only[go_sem];rfl) ?_
  refine am.loop (fun j s'=>d=((r.hides.drop j).all (LO r.kinds.length)&&tl)∧s'=⟨[(4,ii (j:Nat)),(2,.bool false),(1,.bp 0 0)],94,[.var r.cells false]⟩) r.hides.length ⟨hd,by first|(simp only[go_sem];first|done|rfl)|rfl⟩ ?_
  clear hd;rintro j _ hj ⟨hd,rfl⟩;by_cases hjl:j<r.hides.length
  ·obtain⟨q,hq⟩:=gex hjl
   have hq':(r.hides.map sf)[j]?=some (.sl q.1 (q.2.map ii)):=aw hq;have hqz:=qsB_at (Rg.ok_q hok) hq;have hjl':(j:Int)<r.hides.length:=by omega
   have hzh:r.zh≠.n:=fun e=>by rw[bd (Rg.ok_h hok) e]at hjl;simp at hjl
   have ej:=wIs j (by omega)
   have hcq:=cV q.2;rw[F1 hq]at hd;by_cases hql:q.2.length=r.kinds.length
   ·have n1:((q.2.length:Int) != (r.kinds.length:Int))=false:=by rw[hql];simp
    have hd:d=((q.2.drop 0).all (fun x=>inB x 1 500)&&((r.hides.drop (j+1)).all (LO r.kinds.length)&&tl)):=by
     rw[hd,ON,GS]
     congr 1
     unfold LO;rw[Ej hql,EJ]
    generalize hLt:((r.hides.drop (j+1)).all (LO r.kinds.length)&&tl)=later at hd;repeat with_reducible first|refine nz aa ?_|apply ny;simp only[f4,hjl',hq',hzh,n1,hck,hch,hcq,go_sem];rfl
    refine am.keep [5,4,2,1] (by simp only[go_sem];rfl) ?_
    refine am.loop (fun k s'=>d=((q.2.drop k).all (fun x=>inB x 1 500)&&later)∧s'=⟨[(5,ii (k:Nat)),(4,ii (j:Nat)),(2,.bool false),(1,.bp 0 0)],94,[.var r.cells false]⟩) q.2.length ⟨hd,by first|(simp only[go_sem];first|done|rfl)|rfl⟩ ?_
    clear hd;rintro k _ hk' ⟨hd,rfl⟩;by_cases hkl:k<q.2.length
    ·obtain⟨x,hx⟩:=gex hkl
     have hx':(q.2.map ii)[k]?=some (ii x):=aw hx;have hkl':(k:Int)<q.2.length:=by omega
     have hzq:q.1≠.n:=fun e=>by rw[bd hqz e]at hkl;simp at hkl
     have ek:=wIs k (by omega)
     rw[F1 hx]at hd;cases hb:inB x 1 500
     ·rw[hb,Gj,Gj]at hd
      rw[hd];repeat with_reducible first|refine nz rn ?_|apply ny;simp only[f4,MO,cin,hjl',hq',hzh,hkl',hx',hzq,hb,hck,hch,hcq,go_sem];rfl
      exact⟨rfl,rfl,_,rfl,rfl⟩
     ·rw[hb,EJ]at hd
      repeat with_reducible first|refine nz rn ?_|apply ny;simp only[f4,MO,cin,hjl',hq',hzh,hkl',hx',hzq,hb,ek,hck,hch,hcq,go_sem];rfl
      refine ak.t 1 [5,4,2,1] hkl (by simp only[aF,vh,go_sem]) ⟨hd,rfl⟩
    ·have hkl':¬(k:Int)<q.2.length:=by omega
     rw[Ln (by omega),EJ]at hd
     repeat with_reducible first|refine nz aa ?_|apply ny;simp only[f4,hjl',hq',hzh,hkl',ej,hck,hch,hcq,go_sem];rfl
     refine ak.t 1 [4,2,1] hjl (by simp only[aF,vh,go_sem]) ⟨by rw[hd,hLt],rfl⟩
   ·have n1:((q.2.length:Int) != (r.kinds.length:Int))=true:=by rw[bne_iff_ne];omega
    have hhb:LO r.kinds.length q=false:=by unfold LO;rw[Ei hql];rfl
    rw[hhb,Gj,Gj]at hd;rw[hd];repeat with_reducible first|refine nz aa ?_|apply ny;simp only[f4,hjl',hq',hzh,n1,hck,hch,hcq,go_sem];rfl
    exact⟨rfl,rfl,_,rfl,rfl⟩
  ·have hjl':¬(j:Int)<r.hides.length:=by omega
   have hd:d=(Lw (r.al.1,r.al.2)&&(Lw (r.ac.1,r.ac.2)&&(inB r.off 1 5&&inB r.mends 0 2))):=by rw[hd,Ln (by omega),EJ,htl]
   rw[hd];cases s1:Lw (r.al.1,r.al.2)
   ·repeat with_reducible first|refine nz LZ ?_|apply ny;simp only[f4,OJ,MO,cin,c18,s1,hjl',hck,hch,go_sem];rfl
    exact⟨rfl,rfl,_,rfl,rfl⟩
   cases s2:Lw (r.ac.1,r.ac.2)
   ·repeat with_reducible first|refine nz LZ ?_|apply ny;simp only[f4,OJ,MO,cin,c18,s1,s2,hjl',hck,hch,go_sem];rfl
    exact⟨rfl,rfl,_,rfl,rfl⟩
   cases s3:inB r.off 1 5
   ·repeat with_reducible first|refine nz LZ ?_|apply ny;simp only[f4,OJ,MO,cin,c18,s1,s2,s3,hjl',hck,hch,go_sem];rfl
    exact⟨rfl,rfl,_,rfl,rfl⟩
   repeat with_reducible first|refine nz LZ ?_|apply ny;simp only[f4,OJ,MO,cin,c18,s1,s2,s3,hjl',hck,hch,go_sem];rfl
   exact⟨rfl,rfl,_,rfl,rfl⟩
end Go.Pv
