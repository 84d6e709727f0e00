import Derived.Test.YtkjalecddameoaaGreatDoorQmCho
import Derived.Test.YtkjalecddameoaaGreatDoorQmRefC
set_option linter.all false
open Go.Proofs.Tryz
namespace Go.Pv
open Go Go.RowKit Go.Proofs
set_option maxRecDepth 200000
set_option maxHeartbeats 8000000
def spV(a:Int×Int)(b:Int×Int)(c:Int×Int):PV:=.agg [ii a.1,ii a.2,ii b.1,ii b.2,ii c.1,ii c.2]
theorem Bs(p:Pd)(hp:p.Ok)(hf:FitC p.l p.c)(hn:NtSm p.n):ab prog 229 [.agg p.cells] [] (.ret (spV (A5 p.n p.l p.c) (A4 p.n p.l p.c) p.n.w2)) []:=by
 refine ab.ofF hTT func229 rfl rfl ?_;have hd:=jn hp;obtain⟨n,z,l,zc,c⟩:=p;obtain⟨hz,hzc,hl⟩:=hp;have hf:FitC l c:=hf;have hn:NtSm n:=hn;have hpl:eS (.agg (plC n z l))=some (n,z,l):=dt hz hl;have hfb:=dL.2 hf;have hc2:=aO c;have hc3:=ay l;dsimp only[Pd.cells]at hd ⊢;obtain⟨n1,n2,n3,n4,n5,n6,n7⟩:=hn;have g1:=sv hf 1;have g2:=sv hf 2;have j1:gu (·.least) l (ofP l c 1)=loP l c 1:=rfl
 have j2:gu (·.least) l (ofP l c 2)=loP l c 2:=rfl
 have i1:gu (·.most) l (ofP l c 1)=hiP l c 1:=rfl
 have i2:gu (·.most) l (ofP l c 2)=hiP l c 2:=rfl
 have f1:=dL.2 (lS hf 1);have f2:=dL.2 (lS hf 2);have d1:=mA (ofP l c 1);have d2:=mA (ofP l c 2);have w0:nu n 0=n.w0:=rfl;have w1:nu n 1=n.w1:=rfl;have w2:nu n 2=n.w2:=rfl;have cl1:=aO (ofP l c 1);obtain⟨y1,hnv1⟩:∃y,nnV (ofP l c 1)=.sl y (nn (ofP l c 1)):=⟨_,rfl⟩;rw[hnv1]at d1;have cl2:=aO (ofP l c 2);obtain⟨y2,hnv2⟩:∃y,nnV (ofP l c 2)=.sl y (nn (ofP l c 2)):=⟨_,rfl⟩;rw[hnv2]at d2;have hE0:A5 n l c=(max n.w0.1 ((A4 n l c).1-hiP l c 1),min n.w0.2 ((A4 n l c).2-loP l c 1)):=rfl;have hE1:A4 n l c=(max n.w1.1 (n.w2.1-hiP l c 2),min n.w1.2 (n.w2.2-loP l c 2)):=rfl;generalize A5 n l c=E0 at hE0 ⊢;generalize A4 n l c=E1 at hE0 hE1 ⊢;generalize hD1:ofP l c 1=D1 at *;generalize hD2:ofP l c 2=D2 at *;generalize loP l c 1=a1 at *;generalize loP l c 2=a2 at *;generalize hiP l c 1=h1 at *;generalize hiP l c 2=h2 at *;obtain⟨b,⟨p0,q0⟩,⟨p1,q1⟩,⟨p2,q2⟩⟩:=n;obtain⟨x,y⟩:=E1;obtain⟨u,v⟩:=E0;simp only at n1 n2 n3 n4 n5 n6 n7 w0 w1 w2 hd hpl hE0 hE1 ⊢;obtain⟨hx,hy⟩:=Prod.mk.inj hE1;obtain⟨hu,hv⟩:=Prod.mk.inj hE0;have b1:-100200000<=x∧x<=100200000:=by omega
 have b2:-100200000<=y∧y<=100200000:=by omega
 have v1:IntKind.i64.wrap (p2-h2)=p2-h2:=ai (by omega) (by omega)
 have v2:IntKind.i64.wrap (q2-a2)=q2-a2:=ai (by omega) (by omega)
 have v3:IntKind.i64.wrap (x-h1)=x-h1:=ai (by omega) (by omega)
 have v4:IntKind.i64.wrap (y-a1)=y-a1:=ai (by omega) (by omega)
 have u1:IntKind.i64.wrap 2=2:=rfl;have u2:IntKind.i64.wrap 1=1:=rfl;have u3:IntKind.i64.wrap 0=0:=rfl;have u4:IntKind.i64.wrap (-1) = -1:=rfl;have u5:IntKind.i64.wrap (0-1) = -1:=rfl;have t1:((2:Int)≥0)=True:=by simp
 have t2:((1:Int)≥0)=True:=by simp
 have t3:((0:Int)≥0)=True:=by simp
 have t4:((-1:Int)≥0)=False:=by simp
 have t5:((2:Int)<2)=False:=by simp
 have t6:((1:Int)<2)=True:=by simp
 have t7:((0:Int)<2)=True:=by simp
 repeat with_reducible first|refine nz aa ?_|apply ny;simp only[f229,go_sem];rfl
 refine am.keep [4,3,2,1] (by simp only[go_sem];rfl) ?_
 obtain⟨ST,hST⟩:∃ST:Int->List PV->St,ST=fun i cs=>⟨[(4,ii i),(3,.bp 2 0),(2,.bp 1 0),(1,.bp 0 0)],48,[.var (pdC ⟨b,(p0,q0),(p1,q1),(p2,q2)⟩ z l zc c) false,.var [ii 0,ii 0,ii 0,ii 0,ii 0,ii 0] false,.var cs false]⟩:=⟨_,rfl⟩
 refine am.loop (fun i s'=>(i=0∧s'=ST 2 [ii 0,ii 0,ii 0,ii 0,ii 0,ii 0])∨(i=1∧s'=ST 1 [ii 0,ii 0,ii 0,ii 0,ii p2,ii q2])∨(i=2∧s'=ST 0 [ii 0,ii 0,ii x,ii y,ii p2,ii q2]) ∨
  (i=3∧s'=ST (-1) [ii u,ii v,ii x,ii y,ii p2,ii q2])) 3 (.inl ⟨rfl,by rw[hST]⟩) ?_
 rintro i s' hi hI;rcases hI with ⟨rfl,rfl⟩|⟨rfl,rfl⟩|⟨rfl,rfl⟩|⟨rfl,rfl⟩
 ·have hlt:0<3:=by decide
  subst hST;dsimp only;repeat with_reducible first|refine nz cB ?_|apply ny;simp only[f229,BX,tH,hd,hpl,hc3,w2,u1,u2,t1,t5,go_sem];rfl
  refine ak.t 3 [4,3,2,1] hlt (by simp only[cb,aK,an,go_sem]) (.inr (.inl ⟨rfl,by first|(simp only[go_sem];first|done|rfl)|rfl⟩))
 ·have hlt:1<3:=by decide
  subst hST;dsimp only;repeat with_reducible first|refine nz cB ?_|apply ny;simp only[f229,BX,xb,xd,tH,c226,hd,hpl,hfb,hc2,hc3,d2,f2,j2,i2,w1,cl2,hnv2,hD2,v1,v2,u1,u2,u3,t2,t6,←hx,←hy,go_sem];rfl
  refine ak.t 3 [4,3,2,1] hlt (by simp only[cb,aK,an,go_sem]) (.inr (.inr (.inl ⟨rfl,by first|(simp only[go_sem];first|done|rfl)|rfl⟩)))
 ·have hlt:2<3:=by decide
  subst hST;dsimp only;repeat with_reducible first|refine nz cB ?_|apply ny;simp only[f229,BX,xb,xd,tH,c226,hd,hpl,hfb,hc2,hc3,d1,f1,j1,i1,w0,cl1,hnv1,hD1,v3,v4,u2,u3,u4,u5,t3,t7,←hu,←hv,go_sem];rfl
  refine ak.t 3 [4,3,2,1] hlt (by simp only[cb,aK,an,go_sem]) (.inr (.inr (.inr ⟨rfl,by first|(simp only[go_sem];first|done|rfl)|rfl⟩)))
 ·subst hST
  dsimp only;repeat with_reducible first|refine nz aa ?_|apply ny;simp only[f229,t4,go_sem];rfl
  exact⟨rfl,rfl,_,rfl,aq rfl⟩
def c229:Tb_
 |[v],sg=>match na v with
  |some p=>if fitB p.l p.c=true∧ntB p.n=true then some (.ret (spV (A5 p.n p.l p.c) (A4 p.n p.l p.c) p.n.w2),sg)else none
  |none=>none
 |_,_=>none
theorem c229_ok:al prog 229 c229:=al.of0 (ent func229 rfl) fun args sg r sg' h=>by
 unfold c229 at h;split at h <;> try (cases h;done)
 split at h <;> try (cases h;done)
 rename_i p h1;split at h <;> cases h
 rename_i hc;obtain⟨rfl,hp⟩:=zv h1;exact⟨_,rfl,rfl,by rw[af,rH];rfl,Bs p hp (dL.1 hc.1) (xW.1 hc.2)⟩
open Go Go.RowKit
section
variable {P:Program} {T:TypeId->TyI} {st st' st1 st2:St} {out:Out} {G:Gh} {sg:List Box} {w:World}
theorem CI(hT:TyT P T){t e:TypeId}{n k:Nat}{cs es:List PV}{u:Value}(hd:(T t).d=.array n e)(he:(T e).d.ok=true)(h1:(T e).size=k)(hn:n<=maxLen)(hx:Rep G (.ip cs) u)(hl:n=es.length)(hk:∀e∈es,e.cells.length=k)(hfl:flat es=cs):
 ∃u',(Instr.sliceAt t u none none none).run P w=.ok u' w∧Rep G (.sl .f es) u':=by
 have hu:=iq (hT t (by rw[hd];rfl)) hd
 subst hl;cases hx with
 |ip us ho hS hr =>
  rename_i g off;refine⟨.slice (some ⟨g,off,none⟩) es.length es.length,?_,?_⟩
  ·by_cases h0:es.length=0
   ·simp[Instr.sliceAt,run_underlying hu,Instr.sureAddr,Instr.sliceBounds,g6 (hT e he),h0]
   ·simp[Instr.sliceAt,run_underlying hu,Instr.sureAddr,Instr.sliceBounds,g6 (hT e he),h0,gy]
  ·refine .sl (by simp) (fun _=>rfl) k us hk (fun c hc=>?_) (DS _) hn (fun j c hc=>?_) (fun j c hc=>?_) (fun _=>rfl)
   ·rw[hfl]at hc;exact ho c hc
   ·rw[hfl]at hc;exact hS j c hc
   ·rw[hfl]at hc;exact hr j c hc
theorem Cq(hT:TyT P T)(hR:Rel G sg w){t e:TypeId}{n k id:Nat}{cs es:List PV}{u:Value}(hb:sg[id]?=some (.var cs false))(hd:(T t).d=.array n e)(he:(T e).d.ok=true)(h1:(T e).size=k)(hn:n<=maxLen)(hl:n=es.length)(hk:∀e∈es,e.cells.length=k)(hfl:flat es=cs)(hx:Rep G (.bp id 0) u):
 ∃u' w' G',(Instr.sliceAt t u none none none).run P w=.ok u' w'∧Rel G' (fp sg (some (id,.var cs true))) w'∧G.le G'∧G'.dfr=G.dfr∧Rep G' (.sl .f es) u':=by
 obtain⟨G',a,b,c,d,_⟩:=gp hR (some 0) hx;simp only[fC,hb,Ee,Fy,GS]at a d;obtain⟨u',h3,h4⟩:=CI (P:=P) (w:=w) hT hd he h1 hn d hl hk hfl;exact⟨u',w,G',h3,a,b,c,h4⟩
theorem dE.evalX{o:Oper}(hd:∀d,o.dst=some d->d<st.n){v:PV}{ef:Eff}(hnd:∀c,o.op≠.defer c)(hn:rk o.op=false)(h:∀(G:Gh) (a:Act) (w:World),Rel G st.sg w->RepT G st.tm a.tmps->OkN P G (fp st.sg ef) w v (execOp a.eval o))(he:effB ef=true):
 dE P o st .normal { tm:=putD st.tm o.dst v,n:=st.n,sg:=fp st.sg ef }:=by
 have hlen:st.sg.length<=(fp st.sg ef).length:=by
  unfold fp;cases ef <;> simp
 refine⟨hlen,fun r n G a w db next Q hs k=>⟨fun f _=>trivial,?_⟩⟩
 obtain⟨u,w',G',hrun,hR',hl',hdf',hv⟩:=h G a w hs.rel hs.tm;have hlM:=hl'.leM st.sg.length;have hS:RelS G' { tm:=putD st.tm o.dst v,n:=st.n,sg:=fp st.sg ef } (a.put o.dst u) w' r db:=by
  refine⟨hR',(hs.tm.mono hl').putD (fun d e=>hs.n▸hd d e) hv,(cD a o.dst u).trans hs.n,?_,fun l hl=>?_⟩
  ·obtain⟨own,h1,h2⟩:=hs.dfr
   exact⟨own,by rw[bO];exact h1,by rw[hdf'];exact h2.1,h2.2⟩
  ·obtain⟨id,d,lr,h1,h2⟩:=hs.rd l hl
   have hid:=(DR.1 h2).1;obtain⟨lr',h3,h4⟩:=cj (lr:=lr) hR' hlM hid h1 (fun hg=>by
    unfold fp at hg;split at hg
    ·rw[h2]at hg;cases hg
    ·rename_i id' b'
     by_cases hii:id'=id
     ·subst hii
      rw[D4 (DR.1 h2).1]at hg;cases hg;cases he
     ·rw[D8 hii,h2]at hg;cases hg)
   exact⟨id,d,lr',h3,h4⟩
 have hsem:o.semAt (FW r).round a.eval=execOp a.eval o:=Oper.semAt_eq _ _ _ hnd;rw[hsem];have:=k .normal (a.put o.dst u) w' G' trivial hS hlM
 rcases this with ⟨_,hn⟩|⟨hn,_⟩
 ·rcases hrun with hrun|⟨hrun,rfl⟩
  ·rw[hrun];exact hn
  ·rw[hrun];exact hn
 ·exact absurd rfl hn
theorem am.sliceA{me:Meth}{cf:CallF}{Q:Out->St->Prop}{rid:Nat}{o:Oper}{os:List Oper}{t e:TypeId}{n k id x d:Nat}{cs:List PV}(es:List PV)(hT:TyT P T)(hcf:CallFOk P cf)(hme:cQ P me)(hop:o.op=.slice t (.tmp x) none none none)(hg:o.guard=none)(hdst:o.dst=some d)(hdn:d<st.n)
 (hx:b9 st.tm x=some (.bp id 0)) (hb:st.sg[id]?=some (.var cs false)) (hd:(T t).d=.array n e) (he:(T e).d.ok=true) (h1:(T e).size=k) (hn:n<=maxLen) (hl:n=es.length) (hk:∀e∈es,e.cells.length=k) (hfl:flat es=cs)
 (h:lx me cf T (o::os).toArray os { tm:=jW st.tm d (.sl .f es),n:=st.n,sg:=st.sg.set id (.var cs true) } Q):am P (.region rid (o::os).toArray false) st Q:=by
 obtain⟨out,st',h2,h3⟩:=h;refine⟨out,st',Run.region ?_,h3⟩;have h0:dE P o st .normal { tm:=putD st.tm o.dst (.sl .f es),n:=st.n,sg:=fp st.sg (some (id,.var cs true)) }:=by
  refine dE.evalX (fun d' e'=>by rw[hdst]at e';cases e';exact hdn) (fun c e=>by rw[hop]at e;cases e) (by rw[hop];rfl) (fun G a w hR hTm=>?_) rfl
  unfold execOp;rw[hop];exact cw (Cq hT hR hb hd he h1 hn hl hk hfl (aH hTm (show evO st.tm (.tmp x)=some (.bp id 0)from hx)))
 have hr:=m3 (P:=P) (ops:=(o::os).toArray) hT hcf sa hme os 1 _ (fun j o' hj=>by simpa[Nat.add_comm]using hj) h2
 have hw:gk (o::os).toArray st.tm o=some true:=by unfold gk;rw[hg]
 rw[hdst]at h0;have:=bQ.cons (ops:=(o::os).toArray) (i:=0) (by simp) hw h0 hr
 rw[F6];simpa[Fd]using this
end
def Bv(s:Int×Int):PV:=.agg [ii s.1,ii s.2]
theorem BY(s:Int×Int):ab prog 231 [Bv s] [] (.ret (.bool (decide (s.2<s.1)))) []:=by
 refine ab.of0 hTT func231 rfl rfl ?_;unfold Bv;by_cases h:s.2<s.1
 ·rw[Ej h]
  repeat with_reducible first|refine nz aa ?_|apply ny;simp only[f231,h,EW,go_sem];rfl
  exact⟨rfl,rfl,_,rfl,rfl⟩
 ·rw[Ei h]
  repeat with_reducible first|refine nz aa ?_|apply ny;simp only[f231,h,EW,go_sem];rfl
  exact⟨rfl,rfl,_,rfl,rfl⟩
theorem Cv{g:FuncId}{cs:List PV}(L:List (Int×Int))(p:Int×Int->Bool)(he:bC prog g)(hc:bD 0 cs=true)(hl:L.length<=100000)(h:∀q∈L,ab prog g (Bv q::cs) [] (.ret (.bool (p q))) []):
 ab prog 259 [.sl .f (L.map Bv),.fn (.func g) [] cs] [] (.ret (ii (lk p L 0))) []:=by
 refine ab.ofB hTT func259 rfl rfl ?_ rfl (fun b hb=>by cases hb) (DO _ _ _|>.2 trivial)
 repeat with_reducible first|refine nz aa ?_|apply ny;simp only[f259,go_sem];rfl
 refine am.keep [8,7,6,4,0,1] (by simp only[go_sem];rfl) ?_
 refine am.loop (fun i s'=>lk p L 0=lk p (L.drop i) i∧s'=⟨[(8,ii i),(7,ii L.length),(6,.sl .f (L.map Bv)),(4,ii 0),(0,.sl .f (L.map Bv)),(1,.fn (.func g) [] cs)],19,[]⟩) L.length ⟨rfl,by simp only[go_sem]⟩ ?_
 rintro i _ hi ⟨hm,rfl⟩;by_cases hlt:i<L.length
 ·obtain⟨q,hq⟩:=gex hlt
  have hq':(L.map Bv)[i]?=some (.agg [ii q.1,ii q.2]):=by rw[Eh,hq];rfl
  have hlt':(i:Int)<L.length:=by omega
  have e4:=wIs i (by omega)
  rw[aP hq,fX]at hm;have hcall:ab prog g (.agg [ii q.1,ii q.2]::cs) [] (.ret (.bool (p q))) []:=h q (DU hq);cases hpq:p q
  ·rw[hpq]at hm hcall
   repeat with_reducible first|refine nz (ar aa he hcall (SameLoops.refl _)) ?_|apply ny;simp only[f259,cp,hlt',hq',e4,go_sem];rfl
   refine ak.k [8,7,6,4,0,1] hlt (by simp only[go_sem];rfl) ⟨by rw[hm];rfl,by simp only[go_sem]⟩
  ·rw[hpq]at hm hcall
   have hm:lk p L 0=(i:Int):=hm;rw[hm];repeat with_reducible first|refine nz (ar aa he hcall (SameLoops.refl _)) ?_|apply ny;simp only[f259,cp,hlt',hq',e4,go_sem];rfl
   exact⟨rfl,SameLoops.refl _,rfl,[],by simp⟩
 ·have hlt':¬(i:Int)<L.length:=by omega
  rw[hm,Ef (by omega)]
  repeat with_reducible first|refine nz aa ?_|apply ny;simp only[f259,hlt',go_sem];rfl
  exact⟨rfl,SameLoops.refl _,rfl,[],by simp⟩
theorem Bq(L:List (Int×Int))(hl:L.length<=100000):ab prog 230 [.sl .f (L.map Bv),.fn (.func 231) [] []] [] (.ret (.bool (L.any fun s=>decide (s.2<s.1)))) []:=by
 refine ab.ofB hTT func230 rfl rfl ?_ rfl (fun b hb=>by cases hb) (th _ _|>.2 trivial)
 have hidx:=Cv L (fun s=>decide (s.2<s.1)) (ent func231 rfl) (cs:=[]) rfl hl fun q _=>BY q
 rw[←lQ _ L 0];by_cases h0:0<=lk (fun s:Int×Int=>decide (s.2<s.1)) L 0
 ·rw[Ej h0]
  repeat with_reducible first|refine nz (ar aa (ent func259 rfl) hidx (SameLoops.refl _)) ?_|apply ny;simp only[f230,cp,h0,EO,go_sem];rfl
  exact⟨rfl,SameLoops.refl _,rfl,[],by simp⟩
 ·rw[Ei h0]
  repeat with_reducible first|refine nz (ar aa (ent func259 rfl) hidx (SameLoops.refl _)) ?_|apply ny;simp only[f230,cp,h0,EO,go_sem];rfl
  exact⟨rfl,SameLoops.refl _,rfl,[],by simp⟩
def bgnV(n:Nt)(l:List Sn)(c:List Nat):PV :=
 if((begEs n l c).any fun s=>decide (s.2<s.1))=true then .tuple [.agg [ii 0,ii 0],.bool false]else .tuple [.agg [ii (BH n l c).1,ii (BH n l c).2],.bool (decide ((BH n l c).1<=(BH n l c).2))]
def cfBg:CallF:=aE (aE (aE (aE cf0 229 c229) 225 xb) 224 xd) 226 c226
theorem Bm:CallFOk prog cfBg:=ah (ah (ah (ah aa c229_ok) CG) Cp) Ct
theorem Co(p:Pd)(hp:p.Ok)(hf:FitC p.l p.c)(hn:NtSm p.n):ab prog 182 [.agg p.cells] [] (.ret (bgnV p.n p.l p.c)) []:=by
 refine ab.ofF hTT func182 rfl rfl ?_;have hd:=jn hp;have hnb:=xW.2 hn;obtain⟨n,z,l,zc,c⟩:=p;obtain⟨hz,hzc,hl⟩:=hp;have hf:FitC l c:=hf;have hn:NtSm n:=hn;have hfb:=dL.2 hf;have hc2:=aO c;have hc3:=ay l;dsimp only[Pd.cells]at hd hnb ⊢;obtain⟨n1,n2,n3,n4,n5,n6,n7⟩:=hn;have g0:=sv hf 0;have g1:=sv hf 1;have g2:=sv hf 2;have j0:gu (·.least) l (ofP l c 0)=loP l c 0:=rfl
 have i0:gu (·.most) l (ofP l c 0)=hiP l c 0:=rfl
 have f0:=dL.2 (lS hf 0);have d0:=mA (ofP l c 0);have cl0:=aO (ofP l c 0);obtain⟨y0,hnv0⟩:∃y,nnV (ofP l c 0)=.sl y (nn (ofP l c 0)):=⟨_,rfl⟩;rw[hnv0]at d0;have hE0:A5 n l c=(max n.w0.1 ((A4 n l c).1-hiP l c 1),min n.w0.2 ((A4 n l c).2-loP l c 1)):=rfl;have hE1:A4 n l c=(max n.w1.1 (n.w2.1-hiP l c 2),min n.w1.2 (n.w2.2-loP l c 2)):=rfl;have hO:BH n l c=(max 0 ((A5 n l c).1-hiP l c 0),min 900 ((A5 n l c).2-loP l c 0)):=rfl;have hB:bgnV n l c=if(([A5 n l c,A4 n l c,n.w2]:List (Int×Int)).any fun s=>decide (s.2<s.1))=true then .tuple [.agg [ii 0,ii 0],.bool false]else .tuple [.agg [ii (BH n l c).1,ii (BH n l c).2],.bool (decide ((BH n l c).1<=(BH n l c).2))]:=rfl
 have hcon:=Bq [A5 n l c,A4 n l c,n.w2] (by simp)
 obtain⟨b,w0,w1,⟨p2,q2⟩⟩:=n;generalize hG0:A5 _ l c=E0 at *;generalize hG1:A4 _ l c=E1 at *;generalize BH _ l c=O at *;generalize bgnV _ l c=V at *;generalize hD0:ofP l c 0=D0 at *;generalize loP l c 0=a0 at *;generalize hiP l c 0=h0 at *;generalize loP l c 1=a1 at *;generalize hiP l c 1=h1 at *;generalize loP l c 2=a2 at *;generalize hiP l c 2=h2 at *;obtain⟨x0,x1⟩:=E0;obtain⟨y1,y2⟩:=E1;obtain⟨o1,o2⟩:=O;have hcon:ab prog 230 [.sl .f [.agg [ii x0,ii x1],.agg [ii y1,ii y2],.agg [ii p2,ii q2]],.fn (.func 231) [] []] [] (.ret (.bool (([(x0,x1),(y1,y2),(p2,q2)]:List (Int×Int)).any fun s=>decide (s.2<s.1)))) []:=hcon
 generalize (([(x0,x1),(y1,y2),(p2,q2)]:List (Int×Int)).any fun s=>decide (s.2<s.1))=A at hcon hB
 simp only at n1 n2 n3 n4 n5 n6 n7 hE0 hE1 hO hB hcon;obtain⟨hx0,hx1⟩:=Prod.mk.inj hE0;obtain⟨hy1,hy2⟩:=Prod.mk.inj hE1;obtain⟨ho1,ho2⟩:=Prod.mk.inj hO;have v1:IntKind.i64.wrap (x0-h0)=x0-h0:=ai (by omega) (by omega)
 have v2:IntKind.i64.wrap (x1-a0)=x1-a0:=ai (by omega) (by omega)
 have hsp:spV (x0,x1) (y1,y2) (p2,q2)=.agg [ii x0,ii x1,ii y1,ii y2,ii p2,ii q2]:=rfl;repeat with_reducible first|(fail_if_success refine am.seq (x:=.region 2 _ _) ?_);(fail_if_success show am _ (.region 2 _ _) _ _);refine nz Bm ?_|apply ny;simp only[f182,cfBg,c229,hd,hfb,hnb,hc2,hc3,hG0,hG1,hsp,go_sem];rfl
 refine am.seq ?_;refine am.sliceA (n:=3) (k:=2) (e:=60) (id:=2) (x:=4) (d:=9) (cs:=[ii x0,ii x1,ii y1,ii y2,ii p2,ii q2]) [.agg [ii x0,ii x1],.agg [ii y1,ii y2],.agg [ii p2,ii q2]] hTT (aj aa (ent func230 rfl) hcon rfl) cP rfl rfl rfl (by simp only[go_sem]) (by simp only[go_sem]) (by simp only[go_sem]) (by simp only[go_sem]) (by simp only[go_sem]) (by simp only[go_sem]) (by decide) rfl (by simp[PV.cells]) rfl ?_
 cases A with
 |true =>
  rw[DZ rfl]at hB;subst hB;repeat with_reducible first|refine nz (aj aa (ent func230 rfl) hcon rfl) ?_|apply ny;simp only[f182,eA,go_sem];rfl
  exact⟨rfl,rfl,_,rfl,aq rfl⟩
 |false =>
  rw[D5 (by simp)]at hB
  subst hB;repeat with_reducible first|(fail_if_success refine am.seq (x:=.region 4 _ _) ?_);(fail_if_success show am _ (.region 4 _ _) _ _);refine nz (aj aa (ent func230 rfl) hcon rfl) ?_|apply ny;simp only[f182,eA,go_sem];rfl
  repeat with_reducible first|refine nz Bm ?_|apply ny;simp only[f182,cfBg,xb,xd,c226,hd,hfb,hc2,hc3,d0,f0,j0,i0,cl0,hnv0,hD0,v1,v2,←ho1,←ho2,go_sem];rfl
  exact⟨rfl,rfl,_,rfl,aq rfl⟩
def c182:Tb_
 |[v],sg=>match na v with
  |some p=>if fitB p.l p.c=true∧ntB p.n=true then some (.ret (bgnV p.n p.l p.c),sg)else none
  |none=>none
 |_,_=>none
theorem c182_ok:al prog 182 c182:=al.of0 (ent func182 rfl) fun args sg r sg' h=>by
 unfold c182 at h;split at h <;> try (cases h;done)
 split at h <;> try (cases h;done)
 rename_i p h1;split at h <;> cases h
 rename_i hc;obtain⟨rfl,hp⟩:=zv h1;exact⟨_,rfl,rfl,by rw[af,rH];rfl,Co p hp (dL.1 hc.1) (xW.1 hc.2)⟩
theorem fnLtK{m:Nat}{f:FuncId}{cs:List PV}(h:ad cs=true):Pv.Lt m (.fn (.func f) [] [.ip cs]):=by
 refine .fn (fun c hc=>by cases hc) fun c hc=>?_
 simp only[D6,Eb,EM]at hc;subst hc;exact(av _ (show(PV.ip cs).closed=true from h)).mono (Ee _)
theorem Bp{m:Nat}{cs:List PV}{f:Bool}(h:ad cs=true):(Box.var cs f).Lt m:=fun c hc=>(aB _ h c hc).mono (Ee _)
theorem Cg(o:Int×Int)(lo hi:Int)(met:Bool):ab prog 183 [.agg [ii o.1,ii o.2],.bool met,.agg [ii lo,ii hi]] [] (.ret (.agg [ii (A9 o lo hi met).1,ii (A9 o lo hi met).2])) []:=by
 refine ab.ofF hTT func183 rfl rfl ?_;cases met
 ·repeat with_reducible first|refine nz aa ?_|apply ny;simp only[f183,go_sem];rfl
  exact⟨rfl,rfl,_,rfl,aq rfl⟩
 ·repeat with_reducible first|refine nz aa ?_|apply ny;simp only[f183,mnI,mxI,go_sem];rfl
  exact⟨rfl,rfl,_,rfl,aq rfl⟩
def c183:Tb_
 |[.agg [.int .i64 a,.int .i64 b],.bool met,.agg [.int .i64 c,.int .i64 d]],sg=>some (.ret (.agg [ii (A9 (a,b) c d met).1,ii (A9 (a,b) c d met).2]),sg)
 |_,_=>none
theorem c183_ok:al prog 183 c183:=al.of0 (ent func183 rfl) fun args sg r sg' h=>by
 unfold c183 at h;split at h <;> cases h
 exact⟨_,rfl,rfl,rfl,Cg (_,_) _ _ _⟩
theorem Cw(n:Nt)(l:List Sn)(c:List Nat):(BF n l c=none∧∃a b,bgnV n l c=.tuple [.agg [ii a,ii b],.bool false])∨∃a b,BF n l c=some (a,b)∧bgnV n l c=.tuple [.agg [ii a,ii b],.bool true]:=by
 unfold BF bgnV;split
 ·exact .inl ⟨rfl,_,_,rfl⟩
 ·split
  ·rename_i h
   exact .inr ⟨_,_,rfl,by rw[Ej h];rfl⟩
  ·rename_i h
   exact .inl ⟨rfl,_,_,by rw[Ei h]⟩
def strV(n:Nt)(l:List Sn):PV:=if du n l=true then(match zM n l with
 |none=>.tuple [.agg [ii 0,ii 0],ii 5]
 |some s=>.tuple [.agg [ii s.1,ii s.2],ii 0])else .tuple [.agg [ii 0,ii 0],ii 2]
def cfVk:CallF:=aE (aE (aE cf0 181 c181) 182 c182) 183 c183
theorem A1:CallFOk prog cfVk:=ah (ah (ah aa CD) c182_ok) c183_ok
theorem B9(n:Nt)(z:Z)(l:List Sn)(hz:z=.n->l=[])(hnof:l.map nof=l):ab prog 136 [.agg (plC n z l)] [] (.ret (strV n l)) []:=by
 refine ab.ofF hTT func136 rfl rfl ?_;have hpl:=G5 n z l hz;have hltb:bD 0 [PV.agg (plC n z l)]=true:=ae 0 _ (by simp[ad,PV.closed,ay])
 have hcl:=ay l;unfold strV;cases hpb:du n l with
 |false =>
  rw[D5 (by simp)]
  rw[hpb]at hpl;repeat with_reducible first|refine nz (aj aa (ent func143 rfl) hpl hltb) ?_|apply ny;simp only[f136,eA,go_sem];rfl
  exact⟨rfl,rfl,_,rfl,aq rfl⟩
 |true =>
  rw[DZ rfl];rw[hpb]at hpl;have hP:=xn hpb;have hit:=sZ n z l hz hnof (by have:=hP.l10;omega) hP.l1
  have hfc:∀c∈nO l,fitB l c=true:=fun c hc=>hP.fitC (tO.1 hc)
  have hS:zM n l=(nO l).foldl (fun o c=>AY o (BF n l c)) none:=rfl
  have hnt:=hP.nt;generalize zM n l=S at hS ⊢;generalize nO l=C at hit hfc hS;repeat with_reducible first|(fail_if_success refine am.seq (x:=.region 5 _ _) ?_);(fail_if_success show am _ (.region 5 _ _) _ _);refine nz (aj aa (ent func143 rfl) hpl hltb) ?_|apply ny;simp only[f136,eA,go_sem];rfl
  repeat with_reducible first|refine nz A1 ?_|apply ny;simp only[f136,cfVk,c181,hcl,bl,go_sem];rfl
  refine am.keep [14,5,4,3,2,1] (by simp only[go_sem];rfl) ?_
  obtain⟨B,hB⟩:∃B:Option (Int×Int)->List Box,B=fun o=>[.var (plC n z l) false,.var [ii 0,ii 0] false,.var [ii (spO o).1,ii (spO o).2] false,.var [.bool o.isSome] false]:=⟨_,rfl⟩
  refine am.range (L:=C.map fun c=>[slC c]) (first:=[]) (cap:=[.ip (plC n z l)]) rfl (ent func227 rfl) hit ?_ ?_ ?_
   (fun i st=>∃o,S=(C.drop i).foldl (fun o c=>AY o (BF n l c)) o∧st=B o)
   ⟨none,hS,by rw[hB];rfl⟩ ?_ ?_ ?_
  ·intro e he
   obtain⟨l,_,rfl⟩:=Ex.1 he;rfl
  ·intro t ht
   have h9:t=15:=by simpa using ht
   subst h9
   show(15:Nat)<32
   decide
  ·intro t v hv
   obtain⟨q,hq,rfl⟩:=jk hv;simp only[D6,Eb,EM]at hq;rcases hq with rfl|rfl|rfl|rfl|rfl|rfl
   ·exact fnLtK (dY n z l)
   ·exact .bp (show(3:Nat)<5 by decide)
   ·exact .bp (show(2:Nat)<5 by decide)
   ·exact .int
   ·exact .bp (show(1:Nat)<5 by decide)
   ·exact .bp (show(0:Nat)<5 by decide)
  ·rintro i st ⟨o,_,rfl⟩
   rw[hB];refine⟨rfl,fun x hx=>?_,aD _ _ rfl⟩
   simp only[D6,Eb,EM]at hx;rcases hx with rfl|rfl|rfl|rfl
   ·exact Bp (dY n z l)
   ·exact Bp rfl
   ·exact Bp rfl
   ·exact Bp rfl
  ·rintro i e st he ⟨o,hSo,rfl⟩
   obtain⟨c,hc,rfl⟩:∃c,C[i]?=some c∧e=[slC c]:=by
    rw[Eh,EC]at he;obtain⟨d,a,rfl⟩:=he;exact⟨d,a,rfl⟩
   have hfit:=hfc c (DU hc);rw[aP hc,EI]at hSo;obtain⟨zc,hzc⟩:∃zc,zc=(if c=[]then Z.f else Z.a):=⟨_,rfl⟩;have hsl:slC c=.sl zc (nn c):=by rw[hzc];rfl
   have hzn:zc=.n->c=[]:=fun e=>by
    rw[hzc]at e;split at e <;> cases e
   rw[hsl];have hdp:na (.agg (pdC n z l zc c))=some ⟨n,z,l,zc,c⟩:=jn (p:=⟨n,z,l,zc,c⟩) ⟨hz,hzn,hnof⟩;have hcc:=aO c;refine .next (B (AY o (BF n l c))) ⟨_,hSo,rfl⟩ fun own ho=>?_
   rw[hB];dsimp only;have ga0:=dS own;have ga:=dO own;have gs0:=gq own;have gs:=d8 own;unfold YRun;generalize hX:Box.loop _=X1;repeat with_reducible first|refine nz A1 ?_|apply ny;simp only[f136,oS,FX,ga0,ga,gs0,gs,go_sem];rfl
   refine⟨rfl,own,by rw[←hX];rfl,?_⟩
   dsimp only;generalize hX2:Box.loop _=X2;rcases Cw n l c with ⟨hb,a,b,hv⟩|⟨a,b,hb,hv⟩
   ·have hw:AY o (BF n l c)=o:=by rw[hb];cases o <;> rfl
    rw[hw];repeat with_reducible first|refine nz A1 ?_|apply ny;simp only[f136,cfVk,c182,c183,hdp,hfit,hnt,hv,hcl,hcc,ga0,ga,gs0,gs,go_sem];rfl
    exact⟨rfl,[.var [ii a,ii b] false],rfl⟩
   ·rw[hb,Bt]
    generalize hso:spO o=so;obtain⟨s1,s2⟩:=so;generalize hjo:A9 (s1,s2) a b o.isSome=jo;repeat with_reducible first|refine nz A1 ?_|apply ny;simp only[f136,cfVk,c182,c183,hdp,hfit,hnt,hv,hcl,hcc,hjo,ga0,ga,gs0,gs,go_sem];rfl
    exact⟨rfl,[.var [ii a,ii b] false],rfl⟩
  ·rintro st ⟨o,hSo,rfl⟩
   rw[DX,EL]at hSo;have hSo:S=o:=hSo;subst hSo;rw[hB];dsimp only;cases S with
   |none =>
    repeat with_reducible first|refine nz aa ?_|apply ny;simp only[f136,FN,go_sem];rfl
    exact⟨rfl,rfl,_,rfl,aq rfl⟩
   |some s =>
    repeat with_reducible first|refine nz aa ?_|apply ny;simp only[f136,Gv,go_sem];rfl
    exact⟨rfl,rfl,_,rfl,aq rfl⟩
def c136:Tb_
 |[v],sg=>match eS v with
  |some (n,_,l)=>some (.ret (strV n l),sg)
  |none=>none
 |_,_=>none
theorem c136_ok:al prog 136 c136:=al.of0 (ent func136 rfl) fun args sg r sg' h=>by
 unfold c136 at h;split at h <;> try (cases h;done)
 split at h <;> cases h
 rename_i n z l h1;have hn:=eV h1;obtain⟨rfl,hz⟩:=b8 h1;exact⟨_,rfl,rfl,by rw[af,fi];rfl,B9 n z l hz hn⟩
end Go.Pv
