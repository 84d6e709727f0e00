import Derived.Test.YtkjalecddameoaaGreatDoorQiSame
set_option linter.all false
open Go.Proofs.Tryz
namespace Go.Pv
open Go Go.RowKit Go.Proofs
set_option maxRecDepth 200000
set_option maxHeartbeats 8000000
theorem wJ{α β:Type}(f:β->α->β)(b:β){l:List α}{i:Nat}{x:α}(h:l[i]?=some x):(l.take (i+1)).foldl f b=f ((l.take i).foldl f b) x:=by
 rw[Ev,h,FC];rfl
def BI(D:List (List Nat×List Int))(i:Nat):Option (List Int)->Int->Prop
 |none,b=>b = -1
 |some y,b=>∃(j:Nat) (d:List Nat×List Int),b=(j:Nat)∧j<i∧D[j]?=some d∧d.2=y
def betO(o:Option (List Int))(x:List Int):Bool:=match o with
 |none=>true
 |some y=>aV x y
theorem wq(last o:Option (List Int))(x:List Int):eW last o x=if(dG last x&&betO o x)=true then some x else o:=rfl
theorem x8(s:Sty)(hok:s.ok=true)(hst:s.story=true):ab prog 31 [.agg s.cells] [] (.ret (kT (aX s.e s.sc s.rl))) []:=by
 refine ab.ofF hTT func31 rfl rfl ?_;have hS:=Sty.story_ok hst;have hd:=aS s hok;have h1:=ap s.sc;have h2:=ao s.rz;have h5:=cr (fU s.e s.sc s.rl);have h40:=gf hS;have hpl:=fO hS;unfold aX;repeat with_reducible first|refine nz bz ?_|apply ny;simp only[f31,sz,c93,tN,hd,hst,h1,h2,h5,go_sem];rfl
 generalize fU s.e s.sc s.rl=D at *;have hzn:=ofZ_n (L:=D);generalize ofZ D=zz at hzn ⊢;obtain⟨E,hE⟩:∃E,E=D.map (·.2):=⟨_,rfl⟩
 have hEl:E.length=D.length:=by rw[hE,DX]
 have hPn:=xr E;have hPl:=m8 E;have hPm:=fun x (hx:x∈cg E)=>(dX E x).1 hx
 rw[←hE];generalize cg E=P at *;have hP10:∀x∈P,x.length<=10:=fun x hx=>by
  have:=hPm x hx
  rw[hE]at this;obtain⟨d,hd,rfl⟩:=Ex.1 this;exact(hpl d hd).1
 refine am.keep [4,3,1] (by simp only[go_sem];rfl) ?_
 refine am.nilRow 4 26 1 (by simp only[go_sem]) (by simp only[go_sem];rfl) (by simp only[go_sem];rfl) ?_
 refine am.loop (fun k s'=>k<=P.length∧s'=⟨[(4,.ms 1 k),(3,.sl zz (D.map ddV)),(1,.bp 0 0)],67,[.var s.cells false,.row (decide (k=0)) 26 1 ((P.take k).map slx) false]⟩) P.length ⟨Ee _,by simp only[go_sem]⟩ ?_
 rintro k _ hk ⟨_,rfl⟩;have htl:(P.take k).length=k:=by rw[En];omega
 have fin:k=P.length->bR 0 (.ms 1 k) [.var s.cells false,.row (decide (k=0)) 26 1 ((P.take k).map slx) false]=(kT P,[]):=fun e=>by
  subst e;rw[Eg];exact leave_row (id:=1) rfl (aC _) (by rw[DX])
 by_cases hkD:k<D.length
 ·have hkD':(k:Int)<D.length:=by omega
  have hzd:=hzn (fun e=>by rw[e]at hkD;simp at hkD)
  repeat with_reducible first|refine nz aa ?_|apply ny;simp only[f31,hkD',htl,go_sem];rfl
  refine am.keep [6,5,4,3,1] (by simp only[go_sem];rfl) ?_
  obtain⟨last,hlast⟩:∃last,last=(P.take k).getLast?:=⟨_,rfl⟩;have hnx:=hPn k;rw[←hlast,DZ hk]at hnx;refine am.loop (fun i s'=>∃b:Int,BI D i ((E.take i).foldl (eW last) none) b∧s'=⟨[(6,ii (i:Nat)),(5,ii b),(4,.ms 1 k),(3,.sl zz (D.map ddV)),(1,.bp 0 0)],67,[.var s.cells false,.row (decide (k=0)) 26 1 ((P.take k).map slx) false]⟩) D.length ⟨-1,rfl,by simp only[go_sem]⟩ ?_
  rintro i _ hi ⟨b,hb,rfl⟩;by_cases hlt:i<D.length
  ·obtain⟨d,hdi⟩:=gex hlt
   have hd':(D.map ddV)[i]?=some (.agg [.sl .a ((bH d.1).map ii),.sl .a (d.2.map ii)]):=aw hdi;have hEi:E[i]?=some d.2:=by rw[hE];exact aw hdi
   have hlt':(i:Int)<D.length:=by omega
   have e4:=wIs i (by omega)
   have hdd:aN (.sl .a (d.2.map ii))=some d.2:=aI rfl;have hcd:=ac d.2;have hdl:=(hpl d (DU hdi)).1;have hdm:d.2.length<=100000:=by omega
   have hft:=wJ (eW last) none hEi;have hmono:∀o b,BI D i o b->BI D (i+1) o b:=fun o b h=>by
    cases o with
    |none=>exact h
    |some y=>obtain⟨j,d,a1,a2,a3⟩:=h;exact⟨j,d,a1,by omega,a3⟩
   generalize (E.take i).foldl (eW last) none=o at hb hft;have hk0:(k=0∧((k:Int)==0)=true∧dG last d.2=true)∨(∃y0:List Int,((k:Int)==0)=false∧IntKind.i64.wrap ((k:Int)-1)=((k-1:Nat):Int)∧((P.take k).map slx)[k-1]?=some (.sl .a (y0.map ii))∧aN (.sl .a (y0.map ii))=some y0∧ad (y0.map ii)=true∧y0.length<=100000∧dG last d.2=aV y0 d.2∧((k-1:Nat):Int)<k∧decide (k=0)=false):=by
    by_cases h0:k=0
    ·refine .inl ⟨h0,by rw[h0];rfl,?_⟩
     rw[hlast,h0,Gz];rfl
    ·refine .inr ?_
     obtain⟨y0,hy0⟩:∃y0,P[k-1]?=some y0:=⟨_,DT (by omega)⟩
     have hg:(P.take k)[k-1]?=some y0:=by rw[Gu (by omega)];exact hy0
     have hyl:=hP10 y0 (DU hy0);refine⟨y0,by rw[EF];omega,?_,aw hg,aI rfl,ac y0,by omega,?_,by omega,Ei h0⟩
     ·rw[ai (by omega) (by omega)];omega
     ·rw[hlast,Gn,htl,hg];rfl
   have tail:∀(bh:Bool),dG last d.2=bh->(bh=true->betO o d.2=true->BI D (i+1) (eW last o d.2) i)∧((bh=false∨betO o d.2=false)->BI D (i+1) (eW last o d.2) b):=fun bh hbh=>by
    rw[wq,hbh];refine⟨fun h1 h2=>?_,fun h=>?_⟩
    ·rw[h1,h2]
     exact⟨i,d,rfl,by omega,hdi,rfl⟩
    ·have:(bh&&betO o d.2)=false:=by
      rcases h with h|h
      ·rw[h];rfl
      ·rw[h];exact Bool.and_false _
     rw[this];exact hmono _ _ hb
   rcases hk0 with ⟨hk0,k1,hbh⟩|⟨y0,k1,k2,k3,k4,k5,k6,hbh,k7,k8⟩
   ·obtain⟨t1,t2⟩:=tail true hbh
    cases o with
    |none =>
     obtain rfl:b = -1:=hb;repeat with_reducible first|refine nz bz ?_|apply ny;simp only[f31,sz,hd',hlt',hzd,k1,e4,htl,go_sem];rfl
     refine ak.t 2 [6,5,4,3,1] hlt (by simp only[aA,az,an,bL,dx,go_sem]) ⟨_,by rw[hft];exact(t1 rfl rfl),by simp only[go_sem]⟩
    |some y =>
     obtain⟨j,dj,rfl,hji,hdj,rfl⟩:=hb;have hdj':(D.map ddV)[j]?=some (.agg [.sl .a ((bH dj.1).map ii),.sl .a (dj.2.map ii)]):=aw hdj;have hj':(j:Int)<D.length:=by omega
     have hjn:¬((j:Nat):Int)<0:=by omega
     have hj0:(0:Int)<=(j:Nat):=by omega
     have hddj:aN (.sl .a (dj.2.map ii))=some dj.2:=aI rfl;have hcj:=ac dj.2;cases hso:aV d.2 dj.2
     ·repeat with_reducible first|refine nz bz ?_|apply ny;simp only[f31,sz,c28,hd',hdj',hj',hjn,hj0,hddj,hcj,hlt',hzd,hdd,hcd,hdm,k1,hso,e4,htl,go_sem];rfl
      refine ak.t 2 [6,5,4,3,1] hlt (by simp only[aA,az,an,bL,dx,go_sem]) ⟨_,by rw[hft];exact(t2 (.inr hso)),by simp only[go_sem]⟩
     ·repeat with_reducible first|refine nz bz ?_|apply ny;simp only[f31,sz,c28,hd',hdj',hj',hjn,hj0,hddj,hcj,hlt',hzd,hdd,hcd,hdm,k1,hso,e4,htl,go_sem];rfl
      refine ak.t 2 [6,5,4,3,1] hlt (by simp only[aA,az,an,bL,dx,go_sem]) ⟨_,by rw[hft];exact(t1 rfl hso),by simp only[go_sem]⟩
   ·cases hs0:aV y0 d.2
    ·rw[hs0]at hbh
     obtain⟨t1,t2⟩:=tail false hbh;repeat with_reducible first|refine nz bz ?_|apply ny;simp only[f31,sz,c28,hd',hlt',hzd,hdd,hcd,hdm,k1,k2,k3,k4,k5,k6,k7,k8,hs0,e4,htl,go_sem];rfl
     refine ak.t 2 [6,5,4,3,1] hlt (by simp only[aA,az,an,bL,dx,go_sem]) ⟨_,by rw[hft];exact(t2 (.inl rfl)),by simp only[k8,go_sem]⟩
    ·rw[hs0]at hbh
     obtain⟨t1,t2⟩:=tail true hbh;cases o with
     |none =>
      obtain rfl:b = -1:=hb;repeat with_reducible first|refine nz bz ?_|apply ny;simp only[f31,sz,c28,hd',hlt',hzd,hdd,hcd,hdm,k1,k2,k3,k4,k5,k6,k7,k8,hs0,e4,htl,go_sem];rfl
      refine ak.t 2 [6,5,4,3,1] hlt (by simp only[aA,az,an,bL,dx,go_sem]) ⟨_,by rw[hft];exact(t1 rfl rfl),by simp only[k8,go_sem]⟩
     |some y =>
      obtain⟨j,dj,rfl,hji,hdj,rfl⟩:=hb;have hdj':(D.map ddV)[j]?=some (.agg [.sl .a ((bH dj.1).map ii),.sl .a (dj.2.map ii)]):=aw hdj;have hj':(j:Int)<D.length:=by omega
      have hjn:¬((j:Nat):Int)<0:=by omega
      have hj0:(0:Int)<=(j:Nat):=by omega
      have hddj:aN (.sl .a (dj.2.map ii))=some dj.2:=aI rfl;have hcj:=ac dj.2;cases hso:aV d.2 dj.2
      ·repeat with_reducible first|refine nz bz ?_|apply ny;simp only[f31,sz,c28,hd',hdj',hj',hjn,hj0,hddj,hcj,hlt',hzd,hdd,hcd,hdm,k1,k2,k3,k4,k5,k6,k7,k8,hs0,hso,e4,htl,go_sem];rfl
       refine ak.t 2 [6,5,4,3,1] hlt (by simp only[aA,az,an,bL,dx,go_sem]) ⟨_,by rw[hft];exact(t2 (.inr hso)),by simp only[k8,go_sem]⟩
      ·repeat with_reducible first|refine nz bz ?_|apply ny;simp only[f31,sz,c28,hd',hdj',hj',hjn,hj0,hddj,hcj,hlt',hzd,hdd,hcd,hdm,k1,k2,k3,k4,k5,k6,k7,k8,hs0,hso,e4,htl,go_sem];rfl
       refine ak.t 2 [6,5,4,3,1] hlt (by simp only[aA,az,an,bL,dx,go_sem]) ⟨_,by rw[hft];exact(t1 rfl hso),by simp only[k8,go_sem]⟩
  ·have hlt':¬(i:Int)<D.length:=by omega
   obtain rfl:i=D.length:=by omega
   have hfull:(E.take D.length).foldl (eW last) none=AN last E:=by rw[←hEl,Eg];rfl
   rw[hfull,hnx]at hb;cases hPk:P[k]? with
   |none =>
    rw[hPk]at hb;obtain rfl:b = -1:=hb;have hkP:k=P.length:=by have:=List.getElem?_eq_none_iff.1 hPk;omega
    repeat with_reducible first|refine nz aa ?_|apply ny;simp only[f31,hlt',go_sem];rfl
    exact⟨rfl,rfl,_,rfl,fin hkP⟩
   |some y =>
    rw[hPk]at hb;obtain⟨j,dj,rfl,hji,hdj,rfl⟩:=hb;have hkP:=(DR.1 hPk).1;have hdj':(D.map ddV)[j]?=some (.agg [.sl .a ((bH dj.1).map ii),.sl .a (dj.2.map ii)]):=aw hdj;have hj':(j:Int)<D.length:=by omega
    have hjn:¬((j:Nat):Int)<0:=by omega
    have hj0:(0:Int)<=(j:Nat):=by omega
    have q1:(k+1)*24<=140737488355328:=by omega
    have q2:k+1<=maxLen:=by unfold maxLen;omega
    have htk:(P.take (k+1)).map slx=(P.take k).map slx++[.sl .a (dj.2.map ii)]:=by rw[Ev,hPk,Ec];rfl
    have hd1:decide (k+1=0)=false:=by simp
    have hl2:bD 2 ((P.take k).map slx++[.sl .a (dj.2.map ii)])=true:=by rw[←htk];exact bL 2 _
    repeat with_reducible first|refine nz aa ?_|apply ny;simp only[f31,hlt',hdj',hj',hjn,hj0,hzd,q1,q2,htl,go_sem];rfl
    refine ak.t 2 [4,3,1] hkP (by simp only[aA,az,an,dx,hl2,go_sem]) ⟨hkP,by rw[htk,hd1];simp only[go_sem]⟩
 ·have hkD':¬(k:Int)<D.length:=by omega
  repeat with_reducible first|refine nz aa ?_|apply ny;simp only[f31,hkD',htl,go_sem];rfl
  exact⟨rfl,rfl,_,rfl,fin (by omega)⟩
def c31:Tb_
 |[v],sg=>match cS v with
  |some s=>if s.story=true then some (.ret (kT (aX s.e s.sc s.rl)),sg)else none
  |none=>none
 |_,_=>none
theorem c31_ok:al prog 31 c31:=al.of0 (ent func31 rfl) fun args sg r sg' h=>by
 unfold c31 at h;split at h <;> try (cases h;done)
 split at h <;> try (cases h;done)
 rename_i s h1;split at h <;> cases h
 rename_i hst;obtain⟨rfl,hok⟩:=aM h1;exact⟨_,rfl,rfl,by rw[af,cm];rfl,x8 s hok hst⟩
def pb(D:List (List Nat×List Int))(p:List Int):PV:=match ofB D p with
 |[]=>.tuple [.sl .n [],.bool false]
 |d::_=>.tuple [.sl .a ((bH d.1).map ii),.bool true]
theorem zN(s:Sty)(hok:s.ok=true)(hst:s.story=true)(z:Z)(p:List Int)(hz:zOk z (p.map ii)=true)(hp:p.length<=100000):ab prog 36 [.agg s.cells,.sl z (p.map ii)] [] (.ret (pb (fU s.e s.sc s.rl) p)) []:=by
 refine ab.ofF hTT func36 rfl rfl ?_;have hS:=Sty.story_ok hst;have hd:=aS s hok;have h1:=ap s.sc;have h2:=ao s.rz;have hdp:aN (.sl z (p.map ii))=some p:=aI hz;have hcp:=ac p;have h5:=cr (fU s.e s.sc s.rl);have h40:=gf hS;have hpl:=fO hS;repeat with_reducible first|refine nz bz ?_|apply ny;simp only[f36,sz,c93,tN,hd,hst,h1,h2,h5,go_sem];rfl
 generalize fU s.e s.sc s.rl=D at *;have hzn:=ofZ_n (L:=D);generalize ofZ D=zz at hzn ⊢;refine am.keep [7,6,1] (by simp only[go_sem];rfl) ?_
 refine am.loop (fun i s'=>ofB (D.take i) p=[]∧s'=⟨[(7,ii (i:Nat)),(6,.sl zz (D.map ddV)),(1,.sl z (p.map ii))],28,[.var s.cells false]⟩) D.length ⟨rfl,by simp only[go_sem]⟩ ?_
 rintro i _ hi ⟨hm,rfl⟩;by_cases hlt:i<D.length
 ·obtain⟨d,hdi⟩:=gex hlt
  have hd':(D.map ddV)[i]?=some (.agg [.sl .a ((bH d.1).map ii),.sl .a (d.2.map ii)]):=aw hdi;have hlt':(i:Int)<D.length:=by omega
  have hzd:=hzn (fun e=>by rw[e]at hlt;simp at hlt)
  have e4:=wIs i (by omega)
  have hdd:aN (.sl .a (d.2.map ii))=some d.2:=aI rfl;have hcd:=ac d.2;have hcd1:=ac (bH d.1);have hdl:=(hpl d (DU hdi)).1;have hdm:d.2.length<=maxLen:=by unfold maxLen;omega
  by_cases hdp2:d.2=p
  ·have hde:decide (d.2=p)=true:=Ej hdp2
   repeat with_reducible first|refine nz bz ?_|apply ny;simp only[f36,sz,yD,hd',hlt',hzd,hdd,hdp,hcd,hcp,hdm,hde,e4,go_sem];rfl
   have hof:∃l,ofB D p=d::l:=by
    have e1:D=D.take i++d::D.drop (i+1):=by rw[←aP hdi,Ff]
    have e2:ofB D p=ofB (D.take i) p++ofB (d::D.drop (i+1)) p:=by
     unfold ofB;rw[←Ft,←e1]
    rw[e2,hm];refine⟨ofB (D.drop (i+1)) p,?_⟩;unfold ofB;rw[EZ,DZ hde];rfl
   obtain⟨l,hl⟩:=hof;refine⟨rfl,rfl,_,rfl,?_⟩;unfold pb;rw[hl];have hv:(PV.tuple [.sl .a ((bH d.1).map ii),.bool true]).closed=true:=by simp[PV.closed,ad,hcd1]
   exact aq hv
  ·have hde:decide (d.2=p)=false:=Ei hdp2
   have hm2:ofB (D.take (i+1)) p=[]:=by rw[pp hdi,hm,D5 hdp2];rfl
   repeat with_reducible first|refine nz bz ?_|apply ny;simp only[f36,sz,yD,hd',hlt',hzd,hdd,hdp,hcd,hcp,hdm,hde,e4,go_sem];rfl
   refine ak.t 1 [7,6,1] hlt (by simp only[aA,az,aF,an,dx,go_sem]) ⟨hm2,by simp only[go_sem]⟩
 ·have hlt':¬(i:Int)<D.length:=by omega
  obtain rfl:i=D.length:=by omega
  rw[Eg]at hm;repeat with_reducible first|refine nz aa ?_|apply ny;simp only[f36,hlt',go_sem];rfl
  refine⟨rfl,rfl,_,rfl,?_⟩;unfold pb;rw[hm];exact aq rfl
def cfH1:CallF:=aE cf0 94 chas
theorem qd:CallFOk prog cfH1:=ah aa Av
theorem xX(s:Sty)(hk0:1<=s.sc.length)(hk:s.sc.length<=1000)(z:Z)(ps:List (List Int))(hz:z=.n->ps=[])(hne:ps≠[])(hps:ps.length<=1000)(hp:∀p∈ps,p.length<=1000):ab prog 33 [.agg s.cells,.sl z (ps.map slx)] [] (.ret (.sl .a ((bV s.sc.length ps).map ii))) []:=by
 refine ab.ofF hTT func33 rfl rfl ?_;have hcps:=aC ps;have hzn:z≠.n:=fun e=>hne (hz e)
 repeat with_reducible first|refine nz aa ?_|apply ny;simp only[f33,go_sem];rfl
 refine am.keep [6,5,2,1] (by simp only[go_sem];rfl) ?_
 refine am.nilRow 5 44 1 (by simp only[go_sem]) (by simp only[go_sem];rfl) (by simp only[go_sem];rfl) ?_
 refine am.loop (fun i s'=>s'=⟨[(6,ii (i:Nat)),(5,.ms 1 i),(2,.bp 0 0),(1,.sl z (ps.map slx))],42,[.var s.cells false,.row (decide (i=0)) 44 1 (((bV s.sc.length ps).take i).map ii) false]⟩) s.sc.length (by simp only[DX,go_sem]) ?_
 rintro i _ hi rfl;by_cases hlt:i<s.sc.length
 ·have hlt':(i:Int)<s.sc.length:=by omega
  have htl:((bV s.sc.length ps).take i).length=i:=by rw[En,ig];omega
  have hwt:=nF (ps:=ps) hlt;have e4:=wIs i (by omega)
  have q1:(i+1)*8<=140737488355328:=by omega
  have q2:i+1<=maxLen:=by unfold maxLen;omega
  have hd1:decide (i+1=0)=false:=by simp
  have hl2:∀x,bD 2 (((bV s.sc.length ps).take i).map ii++[PV.int .i64 x])=true:=fun x=>by
   have:=aF 2 ((bV s.sc.length ps).take i++[x])
   rw[Ec]at this;exact this
  repeat with_reducible first|refine nz aa ?_|apply ny;simp only[f33,hlt',go_sem];rfl
  refine am.keep [8,7,6,5,2,1] (by simp only[go_sem];rfl) ?_
  refine am.loop (fun j s'=>s'=⟨[(8,ii (j:Nat)),(7,ii (k9 (ps.take j) (i:Int):Nat)),(6,ii (i:Nat)),(5,.ms 1 i),(2,.bp 0 0),(1,.sl z (ps.map slx))],42,[.var s.cells false,.row (decide (i=0)) 44 1 (((bV s.sc.length ps).take i).map ii) false]⟩) ps.length (by simp only[DX,go_sem];rfl) ?_
  rintro j _ hj rfl;by_cases hjl:j<ps.length
  ·obtain⟨q,hq⟩:=gex hjl
   have hq':(ps.map slx)[j]?=some (.sl .a (q.map ii)):=aw hq;have hjl':(j:Int)<ps.length:=by omega
   have hql:=hp q (DU hq);have hqm:q.length<=100000:=by omega
   have hqd:aN (.sl .a (q.map ii))=some q:=aI rfl;have hqc:=ac q;have hct:=uH (n:=(i:Int)) hq;have hcl:=uF (ps.take j) (i:Int);rw[En]at hcl;have e5:=wIs j (by omega)
   have e6:IntKind.i64.wrap ((k9 (ps.take j) (i:Int):Int)+1)=((k9 (ps.take j) (i:Int)+1:Nat):Int):=ai (by omega) (by omega)
   by_cases hin:(i:Int)∈q
   ·rw[DZ hin]at hct
    have hde:decide ((i:Int)∈q)=true:=Ej hin;repeat with_reducible first|refine nz qd ?_|apply ny;simp only[f33,cfH1,chas,hjl',hq',hqd,hqm,hqc,hde,hzn,e5,e6,go_sem];rfl
    refine ak.t 2 [8,7,6,5,2,1] hjl (by simp only[aA,az,aF,an,bL,hl2,go_sem]) (by rw[hct];simp only[go_sem])
   ·rw[D5 hin,Fz]at hct
    have hde:decide ((i:Int)∈q)=false:=Ei hin;repeat with_reducible first|refine nz qd ?_|apply ny;simp only[f33,cfH1,chas,hjl',hq',hqd,hqm,hqc,hde,hzn,e5,go_sem];rfl
    refine ak.t 2 [8,7,6,5,2,1] hjl (by simp only[aA,az,aF,an,bL,hl2,go_sem]) (by rw[hct];simp only[go_sem])
  ·have hjl':¬(j:Int)<ps.length:=by omega
   obtain rfl:j=ps.length:=by omega
   rw[Eg];have hcl:=uF ps (i:Int);have hps0:ps.length≠0:=fun e=>hne (Ew.1 e)
   by_cases h0:k9 ps (i:Int)=0
   ·have b0:((k9 ps (i:Int):Int)==0)=true:=by rw[h0];rfl
    have b1:((k9 ps (i:Int):Int)==(ps.length:Int))=false:=by rw[EF];omega
    repeat with_reducible first|refine nz aa ?_|apply ny;simp only[f33,hjl',b0,b1,e4,htl,q1,q2,go_sem];rfl
    refine ak.t 2 [6,5,2,1] hlt (by simp only[aA,az,aF,an,bL,hl2,go_sem]) (by rw[hwt,Ec,hd1,rK,DZ h0];simp only[go_sem])
   ·have b0:((k9 ps (i:Int):Int)==0)=false:=by rw[EF];omega
    by_cases h1:k9 ps (i:Int)=ps.length
    ·have b1:((k9 ps (i:Int):Int)==(ps.length:Int))=true:=by rw[h1];simp
     repeat with_reducible first|refine nz aa ?_|apply ny;simp only[f33,hjl',b0,b1,e4,htl,q1,q2,go_sem];rfl
     refine ak.t 2 [6,5,2,1] hlt (by simp only[aA,az,aF,an,bL,hl2,go_sem]) (by rw[hwt,Ec,hd1,rK,D5 h0,DZ h1];simp only[go_sem])
    ·have b1:((k9 ps (i:Int):Int)==(ps.length:Int))=false:=by rw[EF];omega
     repeat with_reducible first|refine nz aa ?_|apply ny;simp only[f33,hjl',b0,b1,e4,htl,q1,q2,go_sem];rfl
     refine ak.t 2 [6,5,2,1] hlt (by simp only[aA,az,aF,an,bL,hl2,go_sem]) (by rw[hwt,Ec,hd1,rK,D5 h0,D5 h1];simp only[go_sem])
 ·have hlt':¬(i:Int)<s.sc.length:=by omega
  obtain rfl:i=s.sc.length:=by omega
  have hd0:decide (s.sc.length=0)=false:=Ei (by omega)
  have hwl:=ig s.sc.length ps;rw[EQ (by omega),hd0]
  repeat with_reducible first|refine nz aa ?_|apply ny;simp only[f33,hlt',go_sem];rfl
  refine⟨rfl,rfl,_,rfl,?_⟩;exact leave_row (sg:=[.var s.cells false,.row false 44 1 ((bV s.sc.length ps).map ii) false]) (id:=1) (m:=s.sc.length) rfl (ac _) (by rw[DX,hwl])
def c21:Tb_
 |[],sg=>some (.ret (.bool true),sg)
 |_,_=>none
theorem qy{α:Type}{z:Z}{g:α->PV}{l:List α}(h:z=.n->l=[]):zOk z (l.map g)=true:=by
 cases z with
 |n=>rw[h rfl];rfl
 |a=>rfl
 |f=>rfl
def c23:Tb_
 |[v],sg=>match cS v with
  |some s=>some (.ret (yz s),sg)
  |none=>none
 |_,_=>none
theorem c23_ok:al prog 23 c23:=al.of0 (ent func23 rfl) fun args sg r sg' h=>by
 unfold c23 at h;split at h <;> try (cases h;done)
 split at h <;> cases h
 rename_i s h1;obtain⟨rfl,hok⟩:=aM h1;exact⟨_,rfl,rfl,by rw[af,cm];rfl,Plays_23 s hok⟩
def c56:Tb_
 |[v],sg=>match cS v with
  |some s=>some (.ret (xJ s),sg)
  |none=>none
 |_,_=>none
theorem c56_ok:al prog 56 c56:=al.of0 (ent func56 rfl) fun args sg r sg' h=>by
 unfold c56 at h;split at h <;> try (cases h;done)
 split at h <;> cases h
 rename_i s h1;obtain⟨rfl,hok⟩:=aM h1;exact⟨_,rfl,rfl,by rw[af,cm];rfl,Check_56 s hok⟩
def c26:Tb_
 |[v],sg=>match cS v with
  |some s=>some (.ret (sW s),sg)
  |none=>none
 |_,_=>none
theorem c26_ok:al prog 26 c26:=al.of0 (ent func26 rfl) fun args sg r sg' h=>by
 unfold c26 at h;split at h <;> try (cases h;done)
 split at h <;> cases h
 rename_i s h1;obtain⟨rfl,hok⟩:=aM h1;exact⟨_,rfl,rfl,by rw[af,cm];rfl,yN s hok⟩
def c24:Tb_
 |[v,w],sg=>match cS v,aN w with
  |some s,some p=>some (.ret (waysR s p),sg)
  |_,_=>none
 |_,_=>none
theorem c24_ok:al prog 24 c24:=al.of0 (ent func24 rfl) fun args sg r sg' h=>by
 unfold c24 at h;split at h <;> try (cases h;done)
 split at h <;> cases h
 rename_i s p h1 h2;obtain⟨rfl,hok⟩:=aM h1;obtain⟨z,rfl,hz⟩:=aJ h2;exact⟨_,rfl,rfl,by rw[af,cm,af,bt];rfl,Ways_24 s hok z p (qy hz)⟩
def c25:Tb_
 |[v,w],sg=>match cS v,aN w with
  |some s,some p=>some (.ret (Ax s p),sg)
  |_,_=>none
 |_,_=>none
theorem c25_ok:al prog 25 c25:=al.of0 (ent func25 rfl) fun args sg r sg' h=>by
 unfold c25 at h;split at h <;> try (cases h;done)
 split at h <;> cases h
 rename_i s p h1 h2;obtain⟨rfl,hok⟩:=aM h1;obtain⟨z,rfl,hz⟩:=aJ h2;exact⟨_,rfl,rfl,by rw[af,cm,af,bt];rfl,Rules_25 s hok z p (qy hz)⟩
def c35:Tb_
 |[v,w],sg=>match cS v,aN w with
  |some s,some p=>if s.story=true∧p.length<=100000 then some (.ret (ii ((ofB (fU s.e s.sc s.rl) p).length:Nat)),sg)else none
  |_,_=>none
 |_,_=>none
theorem c35_ok:al prog 35 c35:=al.of0 (ent func35 rfl) fun args sg r sg' h=>by
 unfold c35 at h;split at h <;> try (cases h;done)
 split at h <;> try (cases h;done)
 rename_i s p h1 h2;split at h <;> cases h
 rename_i hc;obtain⟨rfl,hok⟩:=aM h1;obtain⟨z,rfl,hz⟩:=aJ h2;exact⟨_,rfl,rfl,by rw[af,cm,af,bt];rfl,RWays_35 s hok hc.1 z p (qy hz) hc.2⟩
def c36:Tb_
 |[v,w],sg=>match cS v,aN w with
  |some s,some p=>if s.story=true∧p.length<=100000 then some (.ret (pb (fU s.e s.sc s.rl) p),sg)else none
  |_,_=>none
 |_,_=>none
theorem c36_ok:al prog 36 c36:=al.of0 (ent func36 rfl) fun args sg r sg' h=>by
 unfold c36 at h;split at h <;> try (cases h;done)
 split at h <;> try (cases h;done)
 rename_i s p h1 h2;split at h <;> cases h
 rename_i hc;obtain⟨rfl,hok⟩:=aM h1;obtain⟨z,rfl,hz⟩:=aJ h2;exact⟨_,rfl,rfl,by rw[af,cm,af,bt];rfl,zN s hok hc.1 z p (qy hz) hc.2⟩
def c34:Tb_
 |[v,w,.int .i64 a],sg=>match cS v,aN w with
  |some s,some p=>if s.sc.length<=1000∧p.length<=100000 then some (.ret (.bool (areB s.sc.length p a)),sg)else none
  |_,_=>none
 |_,_=>none
theorem c34_ok:al prog 34 c34:=al.of0 (ent func34 rfl) fun args sg r sg' h=>by
 unfold c34 at h;split at h <;> try (cases h;done)
 split at h <;> try (cases h;done)
 rename_i s p h1 h2;split at h <;> cases h
 rename_i hc;obtain⟨rfl,hok⟩:=aM h1;obtain⟨z,rfl,hz⟩:=aJ h2;exact⟨_,rfl,rfl,by rw[af,cm,af,bt];rfl,List_34 s z p _ hz hc.2 hc.1⟩
def c33:Tb_
 |[v,w],sg=>match cS v,l3 w with
  |some s,some ps=>if(1<=s.sc.length∧s.sc.length<=1000)∧decide (ps=[])=false∧ps.length<=1000∧(ps.all fun p=>decide (p.length<=1000))=true then some (.ret (.sl .a ((bV s.sc.length ps).map ii)),sg)else none
  |_,_=>none
 |_,_=>none
theorem c33_ok:al prog 33 c33:=al.of0 (ent func33 rfl) fun args sg r sg' h=>by
 unfold c33 at h;split at h <;> try (cases h;done)
 split at h <;> try (cases h;done)
 rename_i s ps h1 h2;split at h <;> cases h
 rename_i hc;obtain⟨rfl,hok⟩:=aM h1;obtain⟨z,rfl,hz⟩:=fK h2;exact⟨_,rfl,rfl,by rw[af,cm,af,jp];rfl,xX s hc.1.1 hc.1.2 z ps hz (FM hc.2.1) hc.2.2.1 fun p hp=>Eu (D7.1 hc.2.2.2 p hp)⟩
end Go.Pv
