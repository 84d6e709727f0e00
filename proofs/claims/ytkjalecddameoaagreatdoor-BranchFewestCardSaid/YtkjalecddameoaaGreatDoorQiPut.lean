import Derived.Test.YtkjalecddameoaaGreatDoorQiWays
set_option linter.all false
open Go.Proofs.Tryz
namespace Go.Pv
open Go Go.RowKit Go.Proofs
set_option maxRecDepth 200000
set_option maxHeartbeats 8000000
theorem uR{l:List Int}{i:Nat}{x n:Int}(h:l[i]?=some x):decide (n∈l.drop i)=(decide (x=n)||decide (n∈l.drop (i+1))):=by
 rw[aP h,FD,Fk,Eo,Eo,Eo,D6];exact⟨Or.imp Eq.symm id,Or.imp Eq.symm id⟩
theorem has_94(z:Z)(l:List Int)(n:Int)(hz:z=.n->l=[])(hl:l.length<=100000):ab prog 94 [.sl z (l.map ii),ii n] [] (.ret (.bool (decide (n∈l)))) []:=by
 refine ab.of0 hTT func94 rfl rfl ?_;repeat with_reducible first|refine nz aa ?_|apply ny;simp only[f94,go_sem];rfl
 refine am.keep [5,4,0,1] (by simp only[go_sem];rfl) ?_
 refine am.loop (fun i s'=>decide (n∈l)=decide (n∈l.drop i)∧s'=⟨[(5,ii (i:Nat)),(4,.bool false),(0,.sl z (l.map ii)),(1,ii n)],18,[]⟩) l.length ⟨rfl,by simp only[go_sem]⟩ ?_
 rintro i _ hi ⟨hm,rfl⟩;by_cases hlt:i<l.length
 ·obtain⟨x,hx⟩:=gex hlt
  have hx':(l.map ii)[i]?=some (ii x):=aw hx;have hlt':(i:Int)<l.length:=by omega
  have hz':z≠.n:=fun e=>by rw[hz e]at hlt;simp at hlt
  have e4:=wIs i (by omega)
  rw[uR hx]at hm;by_cases hxn:x=n
  ·have hb:(x==n)=true:=by simp[hxn]
   repeat with_reducible first|refine nz aa ?_|apply ny;simp only[f94,hx',hlt',hz',e4,hb,go_sem];rfl
   refine⟨rfl,rfl,_,rfl,?_⟩;rw[hm,Ej hxn];rfl
  ·have hb:(x==n)=false:=by simp[hxn]
   repeat with_reducible first|refine nz aa ?_|apply ny;simp only[f94,hx',hlt',hz',e4,hb,go_sem];rfl
   refine ak.t 0 [5,4,0,1] hlt (by simp only[aF,an,go_sem]) ⟨by rw[hm,Ei hxn];rfl,by simp only[go_sem]⟩
 ·have hlt':¬(i:Int)<l.length:=by omega
  repeat with_reducible first|refine nz aa ?_|apply ny;simp only[f94,hlt',go_sem];rfl
  refine⟨rfl,rfl,_,rfl,?_⟩;rw[hm,Ef (by omega)];rfl
theorem has_42(z:Z)(l:List Int)(n:Int)(hz:z=.n->l=[])(hl:l.length<=100000):ab prog 42 [.sl z (l.map ii),ii n] [] (.ret (.bool (decide (n∈l)))) []:=by
 refine ab.of0 hTT func42 rfl rfl ?_;repeat with_reducible first|refine nz aa ?_|apply ny;simp only[f42,go_sem];rfl
 refine am.keep [5,4,0,1] (by simp only[go_sem];rfl) ?_
 refine am.loop (fun i s'=>decide (n∈l)=decide (n∈l.drop i)∧s'=⟨[(5,ii (i:Nat)),(4,.bool false),(0,.sl z (l.map ii)),(1,ii n)],18,[]⟩) l.length ⟨rfl,by simp only[go_sem]⟩ ?_
 rintro i _ hi ⟨hm,rfl⟩;by_cases hlt:i<l.length
 ·obtain⟨x,hx⟩:=gex hlt
  have hx':(l.map ii)[i]?=some (ii x):=aw hx;have hlt':(i:Int)<l.length:=by omega
  have hz':z≠.n:=fun e=>by rw[hz e]at hlt;simp at hlt
  have e4:=wIs i (by omega)
  rw[uR hx]at hm;by_cases hxn:x=n
  ·have hb:(x==n)=true:=by simp[hxn]
   repeat with_reducible first|refine nz aa ?_|apply ny;simp only[f42,hx',hlt',hz',e4,hb,go_sem];rfl
   refine⟨rfl,rfl,_,rfl,?_⟩;rw[hm,Ej hxn];rfl
  ·have hb:(x==n)=false:=by simp[hxn]
   repeat with_reducible first|refine nz aa ?_|apply ny;simp only[f42,hx',hlt',hz',e4,hb,go_sem];rfl
   refine ak.t 0 [5,4,0,1] hlt (by simp only[aF,an,go_sem]) ⟨by rw[hm,Ei hxn];rfl,by simp only[go_sem]⟩
 ·have hlt':¬(i:Int)<l.length:=by omega
  repeat with_reducible first|refine nz aa ?_|apply ny;simp only[f42,hlt',go_sem];rfl
  refine⟨rfl,rfl,_,rfl,?_⟩;rw[hm,Ef (by omega)];rfl
def chas:Tb_
 |[v,.int .i64 n],sg=>match aN v with
  |some l=>if l.length<=100000 then some (.ret (.bool (decide (n∈l))),sg)else none
  |none=>none
 |_,_=>none
theorem Av:al prog 94 chas:=al.of0 (ent func94 rfl) fun args sg r sg' h=>by
 unfold chas at h;split at h <;> try (cases h;done)
 split at h <;> try (cases h;done)
 rename_i h1;split at h <;> cases h
 rename_i hc;obtain⟨z,rfl,hz⟩:=aJ h1;exact⟨_,rfl,rfl,by rw[af,bt];rfl,has_94 z _ _ hz hc⟩
def firI(e:Int)(l:List Int):Int:=match bN e l with|none=>-1|some a=>((a:Nat):Int)
theorem firI_idx(e:Int)(l:List Int):firI e l=lk (fun n=>decide (n<e)) l 0:=by
 rw[jS];unfold firI;cases bN e l with
 |none=>rfl
 |some a=>show((a:Nat):Int)=((0+a:Nat):Int);rw[EG]
theorem idx_step{α:Type}{p:α->Bool}{l:List α}{i:Nat}{x:α}(h:l[i]?=some x):lk p (l.drop i) i=if p x=true then(i:Int)else lk p (l.drop (i+1)) (i+1):=by rw[aP h,fX]
theorem first_85(s:Sty)(z:Z)(l:List Int)(hz:z=.n->l=[])(hl:l.length<=100000):ab prog 85 [.agg s.cells,.sl z (l.map ii)] [] (.ret (ii (firI s.e l))) []:=by
 refine ab.of0 hTT func85 rfl rfl ?_;rw[firI_idx];have h1:=ap s.sc;have h2:=ao s.rz;repeat with_reducible first|refine nz aa ?_|apply ny;simp only[f85,go_sem];rfl
 refine am.keep [5,4,2,1] (by simp only[go_sem];rfl) ?_
 refine am.loop (fun i s'=>lk (fun n=>decide (n<s.e)) l 0=lk (fun n=>decide (n<s.e)) (l.drop i) i∧s'=⟨[(5,ii (i:Nat)),(4,ii 0),(2,.bp 0 0),(1,.sl z (l.map ii))],20,[.var s.cells false]⟩) l.length ⟨rfl,by simp only[go_sem]⟩ ?_
 rintro i _ hi ⟨hm,rfl⟩;by_cases hlt:i<l.length
 ·obtain⟨x,hx⟩:=gex hlt
  have hx':(l.map ii)[i]?=some (ii x):=aw hx;have hlt':(i:Int)<l.length:=by omega
  have hz':z≠.n:=fun e=>by rw[hz e]at hlt;simp at hlt
  have e4:=wIs i (by omega)
  rw[idx_step hx]at hm;by_cases hxn:x<s.e
  ·rw[DZ (Ej hxn)]at hm
   repeat with_reducible first|refine nz aa ?_|apply ny;simp only[f85,hx',hlt',hz',e4,hxn,go_sem];rfl
   exact⟨rfl,rfl,_,rfl,by rw[hm];rfl⟩
  ·rw[D5 (by simpa using hxn)]at hm
   repeat with_reducible first|refine nz aa ?_|apply ny;simp only[f85,hx',hlt',hz',e4,hxn,go_sem];rfl
   refine ak.t 1 [5,4,2,1] hlt (by simp only[aA,az,aF,an,go_sem]) ⟨hm,by simp only[go_sem]⟩
 ·have hlt':¬(i:Int)<l.length:=by omega
  rw[Ef (by omega)]at hm
  repeat with_reducible first|refine nz aa ?_|apply ny;simp only[f85,hlt',go_sem];rfl
  exact⟨rfl,rfl,_,rfl,by rw[hm];rfl⟩
def c85:Tb_
 |[v,w],sg=>match cS v,aN w with
  |some s,some l=>if l.length<=100000 then some (.ret (ii (firI s.e l)),sg)else none
  |_,_=>none
 |_,_=>none
theorem c85_ok:al prog 85 c85:=al.of0 (ent func85 rfl) fun args sg r sg' h=>by
 unfold c85 at h;split at h <;> try (cases h;done)
 split at h <;> try (cases h;done)
 rename_i s l h1 h2;split at h <;> cases h
 rename_i hc;obtain⟨rfl,hok⟩:=aM h1;obtain⟨z,rfl,hz⟩:=aJ h2;exact⟨_,rfl,rfl,by rw[af,cm,af,bt];rfl,first_85 s z l hz hc⟩
theorem put_86(zf zt:Z)(f t:List Int)(a:Nat)(hzf:zf≠.n)(hzt:zt≠.n)(ha:a<f.length)(ht:t≠[])(hf:f.length<=100000)(htl:t.length<=1000):ab prog 86 [.sl zf (f.map ii),ii (a:Nat),.sl zt (t.map ii)] [] (.ret (.sl .a ((iy f a t).map ii))) []:=by
 refine ab.ofF hTT func86 rfl rfl ?_;have h0:(0:Int)<=(a:Nat):=by omega
 have h1:((a:Nat):Int)<=(f.length:Int):=by omega
 have h2:(0:Int)<=((a+1:Nat):Int):=by omega
 have h3:((a+1:Nat):Int)<=(f.length:Int):=by omega
 have e1:=wIs a (by omega)
 have hte:(t.map ii).isEmpty=false:=by cases t with
  |nil=>exact absurd rfl ht
  |cons x t=>rfl
 have r1:t.length*8<=140737488355328:=by omega
 have r2:t.length<=maxLen:=by unfold maxLen;omega
 obtain⟨F1,hF1⟩:∃F1,F1=f.take a:=⟨_,rfl⟩;obtain⟨F2,hF2⟩:∃F2,F2=f.drop (a+1):=⟨_,rfl⟩;have hp:iy f a t=F1++t++F2:=by rw[hF1,hF2];rfl
 have l1:F1.length=a:=by rw[hF1,En];omega
 have l2:F2.length=f.length-(a+1):=by rw[hF2,GH]
 have ht1:List.take a (f.map ii)=F1.map ii:=by rw[hF1,Fo]
 have ht2:List.drop (a+1) (f.map ii)=F2.map ii:=by rw[hF2,List.map_drop]
 have ht3:List.take (f.length-(a+1)) (F2.map ii)=F2.map ii:=EQ (by rw[DX];omega)
 have c1:=ac F1;have r5:a*8<=140737488355328:=by omega
 have r6:a<=maxLen:=by unfold maxLen;omega
 have r3:(a+t.length)*8<=140737488355328:=by omega
 have r4:a+t.length<=maxLen:=by unfold maxLen;omega
 have r7:(a+t.length+F2.length)*8<=140737488355328:=by omega
 have r8:a+t.length+F2.length<=maxLen:=by unfold maxLen;omega
 have r9:(t.length+F2.length)*8<=140737488355328:=by omega
 have r10:t.length+F2.length<=maxLen:=by unfold maxLen;omega
 rw[hp];clear hF1 hF2 hp;cases F1 with
 |nil =>
  obtain rfl:a=0:=by rw[←l1];rfl
  have w1:IntKind.i64.wrap 1=1:=rfl;have ht2':List.drop 1 (f.map ii)=F2.map ii:=ht2;have ht3':List.take (f.length-1) (F2.map ii)=F2.map ii:=ht3;have h3':(1:Int)<=f.length:=h3;cases F2 with
  |nil =>
   repeat with_reducible first|refine nz aa ?_|apply ny;simp only[f86,h0,h1,h3',w1,hzf,hzt,hte,ht1,ht2',ht3',l1,r1,r2,E9,Fl,List.take_nil,gE,lq,go_sem];rfl
   refine⟨rfl,rfl,_,rfl,?_⟩;rw[EA,Er];exact leave_row (id:=1) (z:=false) rfl (ac t) (DX ..).symm
  |cons y F2 =>
   rw[Ek]at r9 r10;have ht3c:List.take (f.length-1) (ii y::F2.map ii)=ii y::F2.map ii:=ht3';repeat with_reducible first|refine nz aa ?_|apply ny;simp only[f86,h0,h1,h3',w1,hzf,hzt,hte,ht1,ht2',ht3c,l1,r1,r2,r9,r10,E9,Fl,EE,List.isEmpty_cons,Fv,gE,lq,go_sem];rfl
   refine⟨rfl,rfl,_,rfl,?_⟩;rw[EA,Ec];exact leave_row (id:=1) (z:=false) rfl (by rw[←Ec];exact ac _) (by simp)
 |cons x F1 =>
  rw[Ek]at l1;rw[←l1]at r3 r4 r5 r6 r7 r8;have hln:F1.length+t.length+1=F1.length+1+t.length:=by omega
  cases F2 with
  |nil =>
   repeat with_reducible first|refine nz aa ?_|apply ny;simp only[f86,h0,h1,h2,h3,e1,hzf,hzt,hte,ht1,ht2,ht3,hln,r1,r2,r3,r4,r5,r6,E9,Fl,EE,List.isEmpty_cons,Fv,List.take_nil,gE,lq,go_sem];rfl
   refine⟨rfl,rfl,_,rfl,?_⟩;refine leave_row (id:=0) (z:=false) (e:=3) (k:=1) (frz:=false) (es:=(x::F1++t++[]).map ii) ?_ (ac _) ?_
   ·simp
   ·simp;omega
  |cons y F2 =>
   rw[Ek]at r7 r8;have ht3c:List.take (f.length-(a+1)) (ii y::F2.map ii)=ii y::F2.map ii:=ht3;repeat with_reducible first|refine nz aa ?_|apply ny;simp only[f86,h0,h1,h2,h3,e1,hzf,hzt,hte,ht1,ht2,ht3c,hln,r1,r2,r3,r4,r5,r6,r7,r8,E9,Fl,EE,List.isEmpty_cons,Fv,gE,lq,go_sem];rfl
   refine⟨rfl,rfl,_,rfl,?_⟩;refine leave_row (id:=0) (z:=false) (e:=3) (k:=1) (frz:=false) (es:=(x::F1++t++y::F2).map ii) ?_ (ac _) ?_
   ·simp
   ·simp;omega
def ddR(R:List Int)(d:List Nat×List Int):PV:=.agg [.sl .a ((R++bH d.1).map ii),.sl .a (d.2.map ii)]
theorem wo(R:List Int)(d:List Nat×List Int):(ddR R d).closed=true:=by
 show(ad _&&(ad _&&true))=true
 rw[ac,ac];rfl
theorem mT(R:List Int)(L:List (List Nat×List Int)):ad (L.map (ddR R))=true:=aY (wo R) L
theorem iZ(m:Nat)(R:List Int)(L:List (List Nat×List Int)):bD m (L.map (ddR R))=true:=ae m _ (mT R L)
theorem ddR_cons(R:List Int)(i:Nat)(L:List (List Nat×List Int)):(L.map fun d=>(i::d.1,d.2)).map (ddR R)=L.map (ddR (R++[(i:Int)])):=by
 rw[Fb];apply EP;intro d _;show PV.agg [.sl .a ((R++bH (i::d.1)).map ii),_]=_;have:R++bH (i::d.1)=R++[(i:Int)]++bH d.1:=by rw[Et];rfl
 rw[this];rfl
theorem pz{ok:Rl->Bool}{m:Int}:∀(l1 l2:List Rl) (i:Nat),iN ok m (l1++l2) i=iN ok m l1 i++iN ok m l2 (i+l1.length)
 |[],l2,i=>rfl
 |r::l1,l2,i=>by
  rw[EK,iN,iN,pz l1 l2 (i+1),Ek,show i+1+l1.length=i+(l1.length+1)by omega]
  split <;> rfl
def yd(e:Int)(ok:Rl->Bool)(rl:List Rl)(f:Nat)(form:List Int)(a i:Nat):List (List Nat×List Int) :=
 (iN ok (form.getD a 0) (rl.take i) 0).flatMap fun ir=>(gC e ok rl f (iy form a ir.2.to)).map fun d=>(ir.1::d.1,d.2)
theorem z6{e:Int}{ok:Rl->Bool}{rl:List Rl}{f:Nat}{form:List Int}{a i:Nat}{r:Rl}(h:rl[i]?=some r):
 yd e ok rl f form a (i+1)=yd e ok rl f form a i++(if r.frm=form.getD a 0∧ok r=true then(gC e ok rl f (iy form a r.to)).map (fun d=>(i::d.1,d.2))else[]):=by
 have hi:=(DR.1 h).1;unfold yd;rw[Ev,h,pz,GO,En,F4 (by omega),EG]
 congr 1
 show(iN ok (form.getD a 0) [r] i).flatMap _=_
 rw[iN];split
 ·simp[iN]
 ·rfl
theorem accD_all{e:Int}{ok:Rl->Bool}{rl:List Rl}{f:Nat}{form:List Int}{a:Nat}(h:bN e form=some a):yd e ok rl f form a rl.length=gC e ok rl (f+1) form:=by
 unfold yd;rw[Eg,gC,h]
theorem accD_le(e:Int)(ok:Rl->Bool)(rl:List Rl)(f:Nat)(form:List Int)(a i:Nat):(yd e ok rl f form a i).length<=(yd e ok rl f form a rl.length).length:=by
 have:yd e ok rl f form a rl.length=yd e ok rl f form a i++((iN ok (form.getD a 0) (rl.drop i) (0+(rl.take i).length)).flatMap fun ir=>(gC e ok rl f (iy form a ir.2.to)).map fun d=>(ir.1::d.1,d.2)):=by
  unfold yd;rw[←GO,←pz,Ff,Eg]
 rw[this,Ea];omega
theorem rm_get(s:Sty)(x:Int):s.rm.getD x.toNat 0=((min 41 (manyM s.e s.num s.rl x).1:Nat):Int):=by
 unfold Sty.rm Sty.rab;rw[ja (gX 41 (by omega)) (gX 11 (by omega))]
 unfold manyM kF eo;rw[Ep,Ep,Fb,Eh,Gi];cases (fm id id s.e.toNat s.num s.rl s.num)[x.toNat]? with
 |none=>simp
 |some p=>rfl
abbrev tb(s:Sty):Rl->Bool:=okR s.e s.sc s.rl
theorem okSt_all(s:Sty)(r:Rl):tb s r=r.to.all fun x=>decide (0<s.rm.getD x.toNat 0):=by
 unfold tb okR okF;refine oD fun x _=>?_
 rw[rm_get,Fa];have:manyM s.e (s.e.toNat+s.sc.length) s.rl x=manyM s.e s.num s.rl x:=rfl
 rw[this];omega
def dzV(e:Int)(form:List Int)(n:Nat):Z:=match bN e form with
 |none=>.f
 |some _=>if decide (n=0)=true then .n else .a
def DoneP(s:Sty)(f:Nat):Prop:=∀(zf zr:Z) (form R:List Int),zf≠.n->(zr=.n->R=[])->(bN s.e form=none->zr=.a)->form≠[]->InF (s.e+s.sc.length) form->wtF s.e form<f->R.length+f<=50000 ->
 (gC s.e (tb s) s.rl f form).length<=40 ->
 ab prog 155 [.agg s.cells,.sl .a (s.rm.map ii),.sl zf (form.map ii),.sl zr (R.map ii)] [] (.ret (.sl (dzV s.e form (gC s.e (tb s) s.rl f form).length) ((gC s.e (tb s) s.rl f form).map (ddR R)))) []
theorem sS(e:Int):∀l:List Int,l.length<=wtF e l
 |[]=>DS _
 |x::l=>by
  have:=sS e l
  have h1:=wt_pos e x;have:wtF e (x::l)=wtM e x+wtF e l:=by unfold wtF;simp
  rw[Ek];omega
def c86:Tb_
 |[.sl zf fs,.int .i64 a,.sl zt ts],sg=>match dM ld fs,dM ld ts with
  |some f,some t=>if(zf≠.n∧zt≠.n)∧(0<=a∧a<f.length)∧t≠[]∧f.length<=100000∧t.length<=1000 then some (.ret (.sl .a ((iy f a.toNat t).map ii)),sg)else none
  |_,_=>none
 |_,_=>none
theorem c86_ok:al prog 86 c86:=al.of0 (ent func86 rfl) fun args sg r sg' h=>by
 unfold c86 at h;split at h <;> try (cases h;done)
 split at h <;> try (cases h;done)
 rename_i h1 h2;split at h <;> cases h
 rename_i a _ _ f t _ _ hc;obtain rfl:=bv cY h1;obtain rfl:=bv cY h2;have e:a=((a.toNat:Nat):Int):=by omega
 refine⟨_,rfl,rfl,by rw[af,bt,af,af,bt];rfl,?_⟩
 rw[e];exact put_86 _ _ _ _ a.toNat hc.1.1 hc.1.2 (by omega) hc.2.2.1 hc.2.2.2.1 hc.2.2.2.2
def cfE:CallF:=aE (aE cf0 85 c85) 86 c86
theorem gD:CallFOk prog cfE:=ah (ah aa c85_ok) c86_ok
theorem yK(s:Sty)(hok:s.ok=true)(hP:PartsOk s.e s.sc s.rl)(f:Nat)(IH:DoneP s f):DoneP s (f+1):=by
 intro zf zr form R hzf hzr hb hne hin hwt hlen h40;refine ab.ofF hTT func155 rfl rfl ?_;have hd:=aS s hok;have h1:=ap s.sc;have h2:=ao s.rz;have h3:=ac s.rm;have h4:=ac form;have h5:=ac R;have hfz:zOk zf (form.map ii)=true:=by cases zf <;> first|exact absurd rfl hzf|rfl
 have hdf:aN (.sl zf (form.map ii))=some form:=aI hfz;have hfl:form.length<=100000:=by have:=sS s.e form;omega
 cases hf:bN s.e form with
 |none =>
  have hfi:firI s.e form = -1:=by unfold firI;rw[hf]
  have hm1:((-1:Int)<0)=True:=by simp
  obtain rfl:=hb hf;obtain⟨pl,hpl⟩:∃pl,pl=form.map (·-s.e):=⟨_,rfl⟩
  have hg:gC s.e (tb s) s.rl (f+1) form=[([],pl)]:=by rw[gC,hf,hpl]
  have hdz:∀n,dzV s.e form n=.f:=fun n=>by unfold dzV;rw[hf]
  rw[hg,hdz];have hpn:pl.length=form.length:=by rw[hpl,DX]
  repeat with_reducible first|refine nz gD ?_|apply ny;simp only[f155,cfE,c85,hd,hdf,hfi,hfl,hm1,h1,h2,h4,go_sem];rfl
  refine am.keep [11,10,4,2,3] (by simp only[go_sem];rfl) ?_
  refine am.nilRow 10 3 1 (by simp only[go_sem]) (by simp only[go_sem];rfl) (by simp only[go_sem];rfl) ?_
  refine am.loop (fun i s'=>s'=⟨[(11,ii (i:Nat)),(10,.ms 1 i),(4,.bp 0 0),(2,.sl zf (form.map ii)),(3,.sl .a (R.map ii))],107,[.var s.cells false,.row (decide (i=0)) 3 1 ((pl.take i).map ii) false]⟩) form.length (by simp only[go_sem]) ?_
  rintro i _ hi rfl;by_cases hlt:i<form.length
  ·obtain⟨x,hx⟩:=gex hlt
   have hx':(form.map ii)[i]?=some (ii x):=aw hx;have hlt':(i:Int)<form.length:=by omega
   have hxb:=hin x (DU hx);have he1:=hP.e1;have he6:=hP.e6;have hs8:=hP.s8;have e3:IntKind.i64.wrap (x-s.e)=x-s.e:=ai (by omega) (by omega)
   have e4:=wIs i (by omega)
   have r1:(i+1)*8<=140737488355328:=by omega
   have r2:i+1<=maxLen:=by unfold maxLen;omega
   have htk:(pl.take (i+1)).map ii=(pl.take i).map ii++[ii (x-s.e)]:=by
    have:pl[i]?=some (x-s.e):=by rw[hpl];exact aw hx
    rw[Ev,this,Ec];rfl
   have htl:(pl.take i).length=i:=by rw[En];omega
   have hd1:decide (i+1=0)=false:=by simp
   have hl2:bD 2 ((pl.take i).map ii++[ii (x-s.e)])=true:=by
    have:=aF 2 (pl.take i++[x-s.e])
    rw[Ec]at this;exact this
   repeat with_reducible first|refine nz aa ?_|apply ny;simp only[f155,hx',hlt',hzf,e3,e4,r1,r2,htl,go_sem];rfl
   refine ak.t 2 [11,10,4,2,3] hlt (by simp only[aA,az,aF,an,hl2,go_sem]) (by rw[htk,hd1];simp only[go_sem])
  ·have hlt':¬(i:Int)<form.length:=by omega
   obtain rfl:i=form.length:=by omega
   have hi0:decide (form.length=0)=false:=by simp[hne]
   rw[hi0,show pl.take form.length=pl by rw[←hpn,Eg]]
   have h6:=ac pl;refine am.freezeZ 10 1 rfl rfl (by rw[DX,hpn]) h6 rfl rfl ?_
   repeat with_reducible first|refine nz aa ?_|apply ny;simp only[f155,hlt',go_sem];rfl
   refine⟨rfl,rfl,_,rfl,?_⟩;have:ddR R ([],pl)=.agg [.sl .a (R.map ii),.sl .a (pl.map ii)]:=by unfold ddR;rw[show R++bH []=R from Er _]
   rw[EE,this];have hv:(PV.sl .f [.agg [.sl .a (R.map ii),.sl .a (pl.map ii)]]).closed=true:=by simp[PV.closed,ad,h5,h6]
   exact aq hv
 |some a =>
  obtain⟨ha1,ha2⟩:=fe hf;have hfi:firI s.e form=((a:Nat):Int):=by unfold firI;rw[hf]
  have hm1:(((a:Nat):Int)<0)=False:=by simp
  have hdz:∀n,dzV s.e form n=if decide (n=0)=true then .n else .a:=fun n=>by unfold dzV;rw[hf]
  have hga:(form.map ii)[a]?=some (ii (form.getD a 0)):=eh ha1;have ha0:(0:Int)<=(a:Nat):=by omega
  have ha3:((a:Nat):Int)<form.length:=by omega
  have hr10:=hP.r10;rw[s.rl_len]at hr10;rw[hdz,←accD_all hf]at *;have hle:=accD_le s.e (tb s) s.rl f form a;repeat with_reducible first|refine nz gD ?_|apply ny;simp only[f155,cfE,c85,hd,hdf,hfi,hfl,hm1,h1,h2,h4,go_sem];rfl
  refine am.keep [13,12,9,4,1,2,3] (by simp only[go_sem];rfl) ?_
  refine am.nilRow 12 139 2 (by simp only[go_sem]) (by simp only[go_sem];rfl) (by simp only[go_sem];rfl) ?_
  obtain⟨A,hA⟩:∃A:Nat->List (List Nat×List Int),A=yd s.e (tb s) s.rl f form a:=⟨_,rfl⟩;have hAs:=fun i r (h:s.rl[i]?=some r)=>z6 (e:=s.e) (ok:=tb s) (f:=f) (form:=form) (a:=a) h
  rw[←hA]at hAs hle h40 ⊢;have hA0:A 0=[]:=by rw[hA];rfl
  refine am.loop (fun i s'=>s'=⟨[(13,ii (i:Nat)),(12,.ms 1 (A i).length),(9,ii (a:Nat)),(4,.bp 0 0),(1,.sl .a (s.rm.map ii)),(2,.sl zf (form.map ii)),(3,.sl zr (R.map ii))],107,[.var s.cells false,.row (decide ((A i).length=0)) 139 2 ((A i).map (ddR R)) false]⟩) s.rz.length (by rw[hA0];simp only[go_sem]) ?_
  rintro i _ hi rfl;have hAl:(A i).length<=40:=Em (hle i) h40;by_cases hlt:i<s.rz.length
  ·obtain⟨q,hq⟩:=gex hlt
   have hq':(s.rz.map aT)[i]?=some (.agg [ii q.2.frm,.sl q.1 (q.2.to.map ii)]):=aw hq;have hqr:=Sty.rl_get hq;have hlt':(i:Int)<s.rz.length:=by omega
   have hqm:q∈s.rz:=DU hq;have hrq:=hP.rr q.2 (Ex.2 ⟨q,hqm,rfl⟩);have hzr':s.zr≠.n:=fun e=>by rw[bd (Sty.ok_r hok) e]at hlt;simp at hlt
   have hqz:=nQ (Sty.ok_z hok) hqm;have hqn:q.1≠.n:=fun e=>by have:=bd hqz e;rw[this]at hrq;simp at hrq
   have e4:=wIs i (by omega)
   have hst:=hAs i q.2 hqr;by_cases hfr:q.2.frm=form.getD a 0
   ·have hfr':(q.2.frm != form.getD a 0)=false:=by rw[hfr];simp
    repeat with_reducible first|refine nz aa ?_|apply ny;simp only[f155,hq',hlt',hzr',hzf,hga,hfr',ha0,ha3,go_sem];rfl
    refine am.keep [15,14,13,12,9,4,1,2,3] (by simp only[go_sem];rfl) ?_
    obtain⟨p,hp⟩:∃p:Int->Bool,p=fun x=>decide (0<s.rm.getD x.toNat 0):=⟨_,rfl⟩
    have hpS:tb s q.2=q.2.to.all p:=by rw[okSt_all,hp]
    refine am.loop (fun k s'=>s'=⟨[(15,ii (k:Nat)),(14,.bool ((q.2.to.take k).all p)),(13,ii (i:Nat)),(12,.ms 1 (A i).length),(9,ii (a:Nat)),(4,.bp 0 0),(1,.sl .a (s.rm.map ii)),(2,.sl zf (form.map ii)),(3,.sl zr (R.map ii))],107,[.var s.cells false,.row (decide ((A i).length=0)) 139 2 ((A i).map (ddR R)) false]⟩) q.2.to.length (by simp only[Gz,G7,go_sem]) ?_
    rintro k _ hk rfl;by_cases hkl:k<q.2.to.length
    ·obtain⟨x,hx⟩:=gex hkl
     have hx':(q.2.to.map ii)[k]?=some (ii x):=aw hx;have hkl':(k:Int)<q.2.to.length:=by omega
     have hxb:=hrq.2.2.2.2 x (DU hx);have hx0:0<=x:=by omega
     have hxn:x<(s.rm.length:Int):=by rw[s.rm_len];unfold Sty.num;omega
     have hgx:(s.rm.map ii)[x.toNat]?=some (ii (s.rm.getD x.toNat 0)):=eh (by omega)
     have e5:=wIs k (by omega)
     have htk:(q.2.to.take (k+1)).all p=((q.2.to.take k).all p&&p x):=by
      rw[Ev,hx,List.all_append];simp
     have hpx:p x=decide (0<s.rm.getD x.toNat 0):=by rw[hp]
     cases hall:(q.2.to.take k).all p
     ·rw[hall]at htk
      repeat with_reducible first|refine nz aa ?_|apply ny;simp only[f155,hq',hlt',hzr',hqn,hx',hkl',e5,go_sem];rfl
      refine ak.t 2 [15,14,13,12,9,4,1,2,3] hkl (by simp only[aA,az,aF,an,iZ,go_sem]) (by rw[htk,Gj];simp only[go_sem])
     ·rw[hall]at htk
      repeat with_reducible first|refine nz aa ?_|apply ny;simp only[f155,hq',hlt',hzr',hqn,hx',hkl',hx0,hxn,hgx,e5,EW,go_sem];rfl
      refine ak.t 2 [15,14,13,12,9,4,1,2,3] hkl (by simp only[aA,az,aF,an,iZ,go_sem]) (by rw[htk,EJ,hpx];simp only[go_sem])
    ·have hkl':¬(k:Int)<q.2.to.length:=by omega
     obtain rfl:k=q.2.to.length:=by omega
     rw[Eg,←hpS];cases hok2:tb s q.2
     ·rw[D5 (fun h=>by rw[hok2]at h;cases h.2),Er]at hst
      repeat with_reducible first|refine nz aa ?_|apply ny;simp only[f155,hq',hlt',hzr',hkl',e4,go_sem];rfl
      refine ak.t 2 [13,12,9,4,1,2,3] hlt (by simp only[aA,az,aF,an,iZ,go_sem]) (by rw[hst];simp only[go_sem])
     ·rw[DZ ⟨hfr,hok2⟩]at hst
      obtain⟨form',hform⟩:∃form',form'=iy form a q.2.to:=⟨_,rfl⟩;rw[←hform]at hst;have hne':form'≠[]:=fun e=>by
       have:=AU (to:=q.2.to) ha1 hrq.2.2.1
       rw[←hform,e]at this;exact hne (by simpa using this)
      have hin':InF (s.e+s.sc.length) form':=by
       rw[hform];exact mo hin fun y hy=>⟨by have:=hrq.2.2.2.2 y hy;omega,(hrq.2.2.2.2 y hy).2⟩
      have hwt':wtF s.e form'<f:=by
       have:=qB (to:=q.2.to) ha1 ha2 hrq.2.2.2.1 (fun x hx=>hfr▸(hrq.2.2.2.2 x hx).1)
       rw[hform];omega
      have hfl':form'.length<=100000:=by have:=sS s.e form';omega
      have h40':(gC s.e (tb s) s.rl f form').length<=40:=by
       have:=hle (i+1)
       rw[hst,Ea,DX]at this;omega
      have hrec:=IH .a .a form' (R++[(i:Int)]) (by decide) (fun h=>by cases h) (fun _=>rfl) hne' hin' hwt' (by simp;omega) h40'
      generalize dzV s.e form' (gC s.e (tb s) s.rl f form').length=zz at hrec;have hAl2:=hle (i+1);rw[hst,Ea,DX]at hAl2;generalize gC s.e (tb s) s.rl f form'=L at hst hrec h40' hAl2;have hrm:(R++[(i:Int)]).map ii=R.map ii++[ii (i:Int)]:=by simp
      have hcR:ad (R.map ii++[ii (i:Int)])=true:=by rw[←hrm];exact ac _
      rw[hrm]at hrec;have hltb:bD 0 [PV.agg s.cells,.sl .a (s.rm.map ii),.sl .a (form'.map ii),.sl .a (R.map ii++[ii (i:Int)])]=true:=ae 0 _ (by simp[ad,PV.closed,h1,h2,h3,ac,hcR])
      obtain⟨X,hX⟩:∃X,X=L.map (ddR (R++[(i:Int)])):=⟨_,rfl⟩;have hXl:X.length=L.length:=by rw[hX,DX]
      have hXa:(X.all fun y=>y.cells.length==2)=true:=by
       rw[hX,FS];exact D7.2 fun _ _=>rfl
      have hst2:(A (i+1)).map (ddR R)=(A i).map (ddR R)++X:=by rw[hst,Ec,ddR_cons,hX]
      have hst3:(A (i+1)).length=(A i).length+X.length:=by rw[hst,Ea,DX,hXl]
      have hXb:bD 2 ((A i).map (ddR R)++X)=true:=by rw[←hst2];exact iZ 2 R _
      rw[←hX]at hrec;have hdi1:=j8 form;have hdi2:=j8 q.2.to;have hcq:=ac q.2.to;have hcf':=ac form';have htl:q.2.to.length<=1000:=by omega
      have htn:q.2.to≠[]:=fun e=>by rw[e]at hrq;simp at hrq
      have q1:((A i).length+X.length)*48<=140737488355328:=by omega
      have q2:(A i).length+X.length<=maxLen:=by unfold maxLen;omega
      have q3:R.length*8<=140737488355328:=by omega
      have q4:R.length<=maxLen:=by unfold maxLen;omega
      have q5:(R.length+1)*8<=140737488355328:=by omega
      have q6:R.length+1<=maxLen:=by unfold maxLen;omega
      clear hX;by_cases hX0:X=[]
      ·subst hX0
       rw[Er]at hst2;have hst3:(A (i+1)).length=(A i).length:=hst3;by_cases hR0:R=[]
       ·subst hR0
        simp only[E9,EA]at hrec hltb hcR;repeat with_reducible first|refine nz (aj gD (ent func155 rfl) hrec hltb) ?_|apply ny;simp only[f155,eA,cfE,c86,hd,hq',hlt',hzr',hzf,hqn,hdi1,hdi2,hfl,htl,htn,ha0,ha3,hkl',h1,h2,h3,h4,hcq,hcf',hcR,←hform,e4,gE,lq,E9,Fl,go_sem];rfl
        refine ak.t 2 [13,12,9,4,1,2,3] hlt (by simp only[aA,az,aF,an,iZ,go_sem]) (by rw[hst2,hst3];simp only[E9,go_sem])
       ·have hRe:(R.map ii).isEmpty=false:=by cases R with
         |nil=>exact absurd rfl hR0
         |cons x R=>rfl
        repeat with_reducible first|refine nz (aj gD (ent func155 rfl) hrec hltb) ?_|apply ny;simp only[f155,eA,cfE,c86,hd,hq',hlt',hzr',hzf,hqn,hdi1,hdi2,hfl,htl,htn,ha0,ha3,hkl',h1,h2,h3,h4,hcq,hcf',hcR,←hform,hRe,q3,q4,q5,q6,e4,gE,lq,Fl,go_sem];rfl
        refine ak.t 2 [13,12,9,4,1,2,3] hlt (by simp only[aA,az,aF,an,iZ,go_sem]) (by rw[hst2,hst3];simp only[go_sem])
      ·have hXe:X.isEmpty=false:=by cases X with
        |nil=>exact absurd rfl hX0
        |cons x X=>rfl
       have hXp:plain1 (.sl zz X)=false:=by cases X with
        |nil=>exact absurd rfl hX0
        |cons x X=>cases zz <;> rfl
       simp only[plain1]at hXp;simp only[PV.cells]at hXa;have hA0:decide ((A i).length+X.length=0)=false:=by
        have:X.length≠0:=fun e=>hX0 (Ew.1 e)
        exact Ei (by omega)
       by_cases hR0:R=[]
       ·subst hR0
        simp only[E9,EA]at hrec hltb hcR;repeat with_reducible first|refine nz (aj gD (ent func155 rfl) hrec hltb) ?_|apply ny;simp only[f155,eA,cfE,c86,hd,hq',hlt',hzr',hzf,hqn,hdi1,hdi2,hfl,htl,htn,ha0,ha3,hkl',h1,h2,h3,h4,hcq,hcf',hcR,←hform,hXe,hXa,hXp,q1,q2,e4,gE,lq,E9,Fl,go_sem];rfl
        refine ak.t 2 [13,12,9,4,1,2,3] hlt (by simp only[aA,az,aF,an,hXb,go_sem]) (by rw[hst2,hst3,hA0];simp only[E9,go_sem])
       ·have hRe:(R.map ii).isEmpty=false:=by cases R with
         |nil=>exact absurd rfl hR0
         |cons x R=>rfl
        repeat with_reducible first|refine nz (aj gD (ent func155 rfl) hrec hltb) ?_|apply ny;simp only[f155,eA,cfE,c86,hd,hq',hlt',hzr',hzf,hqn,hdi1,hdi2,hfl,htl,htn,ha0,ha3,hkl',h1,h2,h3,h4,hcq,hcf',hcR,←hform,hRe,hXe,hXa,hXp,q1,q2,q3,q4,q5,q6,e4,gE,lq,go_sem];rfl
        refine ak.t 2 [13,12,9,4,1,2,3] hlt (by simp only[aA,az,aF,an,hXb,go_sem]) (by rw[hst2,hst3,hA0];simp only[go_sem])
   ·have hfr':(q.2.frm != form.getD a 0)=true:=eC hfr
    rw[D5 (fun h=>hfr h.1),Er]at hst
    repeat with_reducible first|refine nz aa ?_|apply ny;simp only[f155,hq',hlt',hzr',hzf,hga,hfr',ha0,ha3,e4,go_sem];rfl
    refine ak.t 2 [13,12,9,4,1,2,3] hlt (by simp only[aA,az,aF,an,iZ,go_sem]) (by rw[hst];simp only[go_sem])
  ·have hlt':¬(i:Int)<s.rz.length:=by omega
   obtain rfl:i=s.rz.length:=by omega
   repeat with_reducible first|refine nz aa ?_|apply ny;simp only[f155,hlt',go_sem];rfl
   refine⟨rfl,rfl,_,rfl,?_⟩;rw[←s.rl_len];exact leave_row (id:=1) rfl (mT _ _) (by rw[DX])
end Go.Pv
