import Derived.Test.YtkahmnpcfghpiaaGreatQgTell
set_option linter.all false
open Go.Proofs.Tryz
namespace Go.Pv
open Go Go.RowKit Go.Proofs
set_option maxRecDepth 10000
set_option maxHeartbeats 4000000
abbrev Mv:=Int×Int
def fx(m:Mv):PV:=.agg [ii m.1,ii m.2]
def KA:PV->Option Mv
 |.agg [.int .i64 a,.int .i64 b]=>some (a,b)
 |_=>none
theorem K1(x:PV)(a:Mv)(h:KA x=some a):x=fx a:=by
 unfold KA at h;split at h <;> cases h
 rfl
theorem K9(m:Mv):KA (fx m)=some m:=rfl
theorem decMvs(l:List Mv):dM KA (l.map fx)=some l:=fc K9 l
theorem p3(l:List Mv):ad (l.map fx)=true:=aY (fun _=>rfl) l
abbrev Se:=Z×List Mv
def b0(q:Se):PV:=.sl q.1 (q.2.map fx)
def KN:PV->Option Se
 |.sl z es=>match dM KA es with
  |some l=>some (z,l)
  |none=>none
 |_=>none
theorem K2(q:Se):KN (b0 q)=some q:=by
 show(match dM KA (q.2.map fx)with|some l=>some (q.1,l)|none=>none)=some q
 rw[decMvs]
theorem K3(x:PV)(q:Se)(h:KN x=some q):x=b0 q:=by
 unfold KN at h;split at h <;> try (cases h;done)
 split at h <;> cases h
 rename_i h1;obtain rfl:=bv K1 h1;rfl
theorem decSes(l:List Se):dM KN (l.map b0)=some l:=fc K2 l
theorem J2(q:Se):(b0 q).closed=true:=p3 q.2
theorem cc(l:List Se):ad (l.map b0)=true:=aY J2 l
theorem n5(m:Nat)(l:List Se):bD m (l.map b0)=true:=fg (fun q=>bq m _ (J2 q)) l
abbrev Ve:=Z×List Se
def d6(v:Ve):PV:=.agg [.sl v.1 (v.2.map b0)]
def KH:PV->Option Ve
 |.agg [.sl z es]=>match dM KN es with
  |some l=>some (z,l)
  |none=>none
 |_=>none
theorem KR(v:Ve):KH (d6 v)=some v:=by
 show(match dM KN (v.2.map b0)with|some l=>some (v.1,l)|none=>none)=some v
 rw[decSes]
theorem KO(x:PV)(v:Ve)(h:KH x=some v):x=d6 v:=by
 unfold KH at h;split at h <;> try (cases h;done)
 split at h <;> cases h
 rename_i h1;obtain rfl:=bv K3 h1;rfl
theorem decVes(l:List Ve):dM KH (l.map d6)=some l:=fc KR l
theorem zc(v:Ve):(d6 v).closed=true:=by
 show(ad _&&true)=true
 rw[cc];rfl
theorem bh(l:List Ve):ad (l.map d6)=true:=aY zc l
theorem ltB_ve(m:Nat)(v:Ve):(d6 v).ltB m=true:=bq m _ (zc v)
theorem k5(m:Nat)(l:List Ve):bD m (l.map d6)=true:=fg (ltB_ve m) l
structure Bk where
 cues:Int
 tunes:Int
 zv:Z
 vs:List Ve
namespace Bk
def ok(b:Bk):Bool:=zOk b.zv (b.vs.map d6)&&b.vs.all fun v=>zOk v.1 (v.2.map b0)&&v.2.all fun q=>zOk q.1 (q.2.map fx)
abbrev cells(b:Bk):List PV:=[ii b.cues,ii b.tunes,.sl b.zv (b.vs.map d6)]
theorem ok_v{b:Bk}(h:b.ok=true):zOk b.zv (b.vs.map d6)=true:=by unfold ok at h;rw[D3]at h;exact h.1
theorem ok_s{b:Bk}(h:b.ok=true){v:Ve}(hv:v∈b.vs):zOk v.1 (v.2.map b0)=true∧∀q∈v.2,zOk q.1 (q.2.map fx)=true:=by
 unfold ok at h;rw[D3,D7]at h;have:=h.2 v hv
 rw[D3,D7]at this;exact this
end Bk
theorem oC(b:Bk):ad b.cells=true:=by simp[ad,PV.closed,bh]
theorem FP(m:Nat)(b:Bk):(PV.agg b.cells).ltB m=true:=bq m _ (oC b)
def Kb:PV->Option Bk
 |.agg [.int .i64 c,.int .i64 t,.sl z es]=>match dM KH es with
  |some l=>if(⟨c,t,z,l⟩:Bk).ok=true then some ⟨c,t,z,l⟩else none
  |none=>none
 |_=>none
theorem qs{x:PV}{b:Bk}(h:Kb x=some b):x=.agg b.cells∧b.ok=true:=by
 unfold Kb at h;split at h <;> try (cases h;done)
 split at h <;> try (cases h;done)
 rename_i h1;split at h <;> cases h
 rename_i hok;obtain rfl:=bv KO h1;exact⟨rfl,hok⟩
theorem Kj(b:Bk)(h:b.ok=true):Kb (.agg b.cells)=some b:=by
 show(match dM KH (b.vs.map d6)with|some l=>if(⟨b.cues,b.tunes,b.zv,l⟩:Bk).ok=true then some ⟨b.cues,b.tunes,b.zv,l⟩else none|none=>none)=some b
 rw[decVes];exact DZ h
abbrev St4:=List (List Mv)
def Ve.sts(v:Ve):St4:=v.2.map (·.2)
def mvB(c t n:Int)(m:Mv):Bool:=inB m.1 0 (n-1)&&inB m.2 0 (t-1)
def u3(c t n:Int)(l:List Mv):Bool:=decide ((l.length:Int)=c)&&l.all (mvB c t n)
def mv(c t:Int)(v:St4):Bool:=inB v.length 1 4&&v.all (u3 c t v.length)
def bkB(b:Bk):Bool:=inB b.cues 1 4&&inB b.tunes 1 6&&inB b.vs.length 1 4&&b.vs.all fun v=>mv b.cues b.tunes v.sts
def hQ(v:St4):Nat->List Nat->List Int×Nat
 |s,[]=>([],s)
 |s,c::r=>((((v.getD s []).getD c (0,0)).2::(hQ v ((v.getD s []).getD c (0,0)).1.toNat r).1),(hQ v ((v.getD s []).getD c (0,0)).1.toNat r).2)
theorem r7(v:St4):∀(l:List Nat) (s:Nat),(hQ v s l).1.length=l.length
 |[],_=>rfl
 |c::r,s=>by
  show(hQ v _ r).1.length+1=r.length+1
  rw[r7 v r]
theorem D1(v:St4):∀(l m:List Nat) (n s:Nat),l.take n=m.take n->(hQ v s l).1.take n=(hQ v s m).1.take n
 |_,_,0,_,_=>by simp
 |[],[],n+1,_,_=>rfl
 |[],y::m,n+1,_,h=>by simp at h
 |x::l,[],n+1,_,h=>by simp at h
 |x::l,y::m,n+1,s,h=>by
  rw[Lk,Lk]at h;injection h with h1 h2
  subst h1
  show((((v.getD s []).getD x (0,0)).2::(hQ v _ l).1).take (n+1))=((((v.getD s []).getD x (0,0)).2::(hQ v _ m).1).take (n+1))
  rw[Lk,Lk,D1 v l m n _ h2]
def vR:List Int->List (List Int)->List Int
 |out,[]=>out
 |out,t::r=>vR (out.mapIdx fun k x=>if t.getD k 0≠x then -1 else x) r
theorem x6:∀(r:List (List Int)) (out:List Int),(vR out r).length=out.length
 |[],_=>rfl
 |t::r,out=>by rw[vR,x6 r];simp
theorem BI{n:Nat}:∀(r q:List (List Int)) (out out':List Int),r.length=q.length->(∀(i:Nat) (t u:List Int),r[i]?=some t->q[i]?=some u->t.take n=u.take n)->out.take n=out'.take n->(∀t∈r,n<=t.length)->(∀t∈q,n<=t.length)->(vR out r).take n=(vR out' q).take n
 |[],[],_,_,_,_,h,_,_=>h
 |t::r,u::q,out,out',hl,he,h,h1,h2=>by
  rw[vR,vR];refine BI r q _ _ (by simpa using hl) (fun i x y hx hy=>he (i+1) x y (by simpa using hx) (by simpa using hy)) ?_ (fun x hx=>h1 x (DW _ hx)) fun x hx=>h2 x (DW _ hx)
  have htu:=he 0 t u rfl rfl;have ht:=h1 t DV;have hu:=h2 u DV;apply E6;intro i;rw[El,El];by_cases hi:i<n
  ·rw[DZ hi,DZ hi,List.getElem?_mapIdx,List.getElem?_mapIdx]
   have e1:out[i]?=out'[i]?:=by
    have:=congrArg (fun l=>l[i]?) h
    simpa[El,hi]using this
   have e2:t[i]?=u[i]?:=by
    have:=congrArg (fun l=>l[i]?) htu
    simpa[El,hi]using this
   have e3:t.getD i 0=u.getD i 0:=by rw[Ep,Ep,e2]
   rw[e1,e3]
  ·rw[D5 hi,D5 hi]
 |[],_::_,_,_,hl,_,_,_,_=>by cases hl
 |_::_,[],_,_,hl,_,_,_,_=>by cases hl
end Go.Pv
namespace Go.Pv
open Go Go.RowKit Go.Proofs
set_option maxRecDepth 100000
def mvTS:TS:=.st [eu,eu]
def seTS:TS:=.sl mvTS true
def veTS:TS:=.st [.sl seTS false]
def bkTS:TS:=.st [eu,eu,.sl veTS true]
theorem Kl{α:Type}{g:α->PV}{p:α->Prop}:∀{es:List PV},(∀x∈es,∃y,x=g y∧p y)->∃l:List α,es=l.map g∧∀y∈l,p y
 |[],_=>⟨[],rfl,fun _ h=>by cases h⟩
 |x::es,h=>by
  obtain⟨y,hy,hp⟩:=h x DV;obtain⟨l,hl,hq⟩:=Kl (es:=es) fun z hz=>h z (DW _ hz)
  refine⟨y::l,by rw[hy,hl];rfl,fun w hw=>?_⟩
  rcases D6.1 hw with rfl|hw
  ·exact hp
  ·exact hq w hw
theorem mv_of{v:PV}(h:mvTS.shp v.cells∧v.ag=true):∃m:Mv,v=fx m:=by
 obtain⟨a,r1,e1,ha,hr1⟩:=(show ∃a b,v.cells=a++b∧eu.shp a∧no [eu] b from h.1)
 obtain⟨b,r2,e2,hb,hr2⟩:=(show ∃a b,r1=a++b∧eu.shp a∧no [] b from hr1)
 obtain rfl:r2=[]:=hr2;obtain⟨x1,rfl⟩:=gm ha;obtain⟨x2,rfl⟩:=gm hb;subst e2;exact⟨(x1,x2),D2 e1 h.2⟩
theorem se_of{v:PV}(h:seTS.shp v.cells∧v.ag=false):∃q:Se,v=b0 q∧zOk q.1 (q.2.map fx)=true:=by
 obtain⟨z,es,hc,hz,_,_,hel⟩:=(show ∃z es,v.cells=[.sl z es]∧(z=.n->es=[])∧z≠.f∧es.length<=maxLen∧∀x∈es,mvTS.shp x.cells∧x.ag=true from h.1)
 obtain⟨l,rfl⟩:=y8 (g:=fx) fun x hx=>mv_of (hel x hx)
 exact⟨(z,l),one_of hc h.2,y4 hz⟩
theorem ve_of{v:PV}(h:veTS.shp v.cells∧v.ag=true):∃q:Ve,v=d6 q∧(zOk q.1 (q.2.map b0)=true∧∀r∈q.2,zOk r.1 (r.2.map fx)=true):=by
 obtain⟨a,r1,e1,ha,hr1⟩:=(show ∃a b,v.cells=a++b∧(TS.sl seTS false).shp a∧no [] b from h.1)
 obtain rfl:r1=[]:=hr1;obtain⟨z,es,rfl,hz,_,_,hel⟩:=(show ∃z es,a=[.sl z es]∧(z=.n->es=[])∧z≠.f∧es.length<=maxLen∧∀x∈es,seTS.shp x.cells∧x.ag=false from ha)
 obtain⟨l,rfl,hl⟩:=Kl (g:=b0) fun x hx=>se_of (hel x hx)
 exact⟨(z,l),D2 e1 h.2,y4 hz,hl⟩
theorem bk_of{v:PV}(h:bkTS.shp v.cells∧v.ag=true):∃b:Bk,v=.agg b.cells∧b.ok=true:=by
 obtain⟨a,r1,e1,ha,hr1⟩:=(show ∃a b,v.cells=a++b∧eu.shp a∧no [eu,.sl veTS true] b from h.1)
 obtain⟨b,r2,e2,hb,hr2⟩:=(show ∃a b,r1=a++b∧eu.shp a∧no [.sl veTS true] b from hr1)
 obtain⟨c,r3,e3,hc,hr3⟩:=(show ∃a b,r2=a++b∧(TS.sl veTS true).shp a∧no [] b from hr2)
 obtain rfl:r3=[]:=hr3;obtain⟨x1,rfl⟩:=gm ha;obtain⟨x2,rfl⟩:=gm hb;obtain⟨z,es,rfl,hz,_,_,hel⟩:=(show ∃z es,c=[.sl z es]∧(z=.n->es=[])∧z≠.f∧es.length<=maxLen∧∀x∈es,veTS.shp x.cells∧x.ag=true from hc)
 obtain⟨l,rfl,hl⟩:=Kl (g:=d6) fun x hx=>ve_of (hel x hx)
 subst e3;subst e2;refine⟨⟨x1,x2,z,l⟩,D2 e1 h.2,?_⟩;unfold Bk.ok;rw[D3,D7];exact⟨y4 hz,fun v hv=>by
  rw[D3,D7];exact hl v hv⟩
set_option maxRecDepth 200000
set_option maxHeartbeats 8000000
theorem Lg{g:FuncId}{cs:List PV}{S:List Box}(z:Z)(L:List Mv)(p:Mv->Bool)(he:bC prog g)(hS:OwnOk 0 S)(hc:bD S.length cs=true)(hz:z=.n->L=[])(hl:L.length<=100000)(h:∀q∈L,ab prog g (fx q::cs) S (.ret (.bool (p q))) S):
 ab prog 203 [.sl z (L.map fx),.fn (.func g) [] cs] S (.ret (ii (lk p L 0))) S:=by
 have hS':∀b∈S,b.Lt S.length:=fun b hb=>by have:=hS b hb;simpa using this
 refine ab.ofB hTT func203 rfl rfl ?_ rfl hS' (DO _ _ _|>.2 trivial);repeat with_reducible first|refine nz aa ?_|apply ny;simp only[f203,go_sem];rfl
 refine am.keep [8,7,6,4,0,1] (by simp only[go_sem];rfl) ?_
 refine am.loop (fun i s'=>lk p L 0=lk p (L.drop i) i∧s'=⟨[(8,ii i),(7,ii L.length),(6,.sl z (L.map fx)),(4,ii 0),(0,.sl z (L.map fx)),(1,.fn (.func g) [] cs)],19,S⟩) L.length ⟨rfl,by simp only[go_sem]⟩ ?_
 rintro i _ hi ⟨hm,rfl⟩;by_cases hlt:i<L.length
 ·obtain⟨q,hq⟩:=gex hlt
  have hq':(L.map fx)[i]?=some (.agg [ii q.1,ii q.2]):=by rw[Eh,hq];rfl
  have hlt':(i:Int)<L.length:=by omega
  have hz':z≠.n:=fun e=>by rw[hz e]at hlt;simp at hlt
  have e4:=wIs i (by omega)
  rw[aP hq,fX]at hm;have hcall:ab prog g (.agg [ii q.1,ii q.2]::cs) S (.ret (.bool (p q))) S:=h q (DU hq);cases hpq:p q
  ·rw[hpq]at hm hcall
   repeat with_reducible first|refine nz (ar aa he hcall (SameLoops.refl _)) ?_|apply ny;simp only[f203,cp,hlt',hq',hz',e4,go_sem];rfl
   refine ak.k [8,7,6,4,0,1] hlt (by simp only[go_sem];rfl) ⟨by rw[hm];rfl,by simp only[go_sem]⟩
  ·rw[hpq]at hm hcall
   have hm:lk p L 0=(i:Int):=hm;rw[hm];repeat with_reducible first|refine nz (ar aa he hcall (SameLoops.refl _)) ?_|apply ny;simp only[f203,cp,hlt',hq',hz',e4,go_sem];rfl
   exact⟨rfl,SameLoops.refl _,rfl,[],by simp⟩
 ·have hlt':¬(i:Int)<L.length:=by omega
  rw[hm,Ef (by omega)]
  repeat with_reducible first|refine nz aa ?_|apply ny;simp only[f203,hlt',go_sem];rfl
  exact⟨rfl,SameLoops.refl _,rfl,[],by simp⟩
theorem J8{g:FuncId}{cs:List PV}{S:List Box}(z:Z)(L:List Mv)(p:Mv->Bool)(he:bC prog g)(hS:OwnOk 0 S)(hc:bD S.length cs=true)(hz:z=.n->L=[])(hl:L.length<=100000)(h:∀q∈L,ab prog g (fx q::cs) S (.ret (.bool (p q))) S):
 ab prog 155 [.sl z (L.map fx),.fn (.func g) [] cs] S (.ret (.bool (L.any p))) S:=by
 have hS':∀b∈S,b.Lt S.length:=fun b hb=>by have:=hS b hb;simpa using this
 refine ab.ofB hTT func155 rfl rfl ?_ rfl hS' (th _ _|>.2 trivial);have hidx:=Lg z L p he hS hc hz hl h;rw[←lQ p L 0];by_cases h0:0<=lk p L 0
 ·rw[Ej h0]
  repeat with_reducible first|refine nz (ar aa (ent func203 rfl) hidx (SameLoops.refl _)) ?_|apply ny;simp only[f155,cp,h0,EO,go_sem];rfl
  exact⟨rfl,SameLoops.refl _,rfl,[],by simp⟩
 ·rw[Ei h0]
  repeat with_reducible first|refine nz (ar aa (ent func203 rfl) hidx (SameLoops.refl _)) ?_|apply ny;simp only[f155,cp,h0,EO,go_sem];rfl
  exact⟨rfl,SameLoops.refl _,rfl,[],by simp⟩
theorem Ld{g:FuncId}{cs:List PV}{S:List Box}(z:Z)(L:List Se)(p:Se->Bool)(he:bC prog g)(hS:OwnOk 0 S)(hc:bD S.length cs=true)(hz:z=.n->L=[])(hl:L.length<=100000)(h:∀q∈L,ab prog g (b0 q::cs) S (.ret (.bool (p q))) S):
 ab prog 202 [.sl z (L.map b0),.fn (.func g) [] cs] S (.ret (ii (lk p L 0))) S:=by
 have hS':∀b∈S,b.Lt S.length:=fun b hb=>by have:=hS b hb;simpa using this
 refine ab.ofB hTT func202 rfl rfl ?_ rfl hS' (DO _ _ _|>.2 trivial);repeat with_reducible first|refine nz aa ?_|apply ny;simp only[f202,go_sem];rfl
 refine am.keep [8,7,6,4,0,1] (by simp only[go_sem];rfl) ?_
 refine am.loop (fun i s'=>lk p L 0=lk p (L.drop i) i∧s'=⟨[(8,ii i),(7,ii L.length),(6,.sl z (L.map b0)),(4,ii 0),(0,.sl z (L.map b0)),(1,.fn (.func g) [] cs)],19,S⟩) L.length ⟨rfl,by simp only[go_sem]⟩ ?_
 rintro i _ hi ⟨hm,rfl⟩;by_cases hlt:i<L.length
 ·obtain⟨q,hq⟩:=gex hlt
  have hq':(L.map b0)[i]?=some (.sl q.1 (q.2.map fx)):=by rw[Eh,hq];rfl
  have hlt':(i:Int)<L.length:=by omega
  have hz':z≠.n:=fun e=>by rw[hz e]at hlt;simp at hlt
  have e4:=wIs i (by omega)
  rw[aP hq,fX]at hm;have hcall:ab prog g (.sl q.1 (q.2.map fx)::cs) S (.ret (.bool (p q))) S:=h q (DU hq);cases hpq:p q
  ·rw[hpq]at hm hcall
   repeat with_reducible first|refine nz (ar aa he hcall (SameLoops.refl _)) ?_|apply ny;simp only[f202,cp,hlt',hq',hz',e4,go_sem];rfl
   refine ak.k [8,7,6,4,0,1] hlt (by simp only[go_sem];rfl) ⟨by rw[hm];rfl,by simp only[go_sem]⟩
  ·rw[hpq]at hm hcall
   have hm:lk p L 0=(i:Int):=hm;rw[hm];repeat with_reducible first|refine nz (ar aa he hcall (SameLoops.refl _)) ?_|apply ny;simp only[f202,cp,hlt',hq',hz',e4,go_sem];rfl
   exact⟨rfl,SameLoops.refl _,rfl,[],by simp⟩
 ·have hlt':¬(i:Int)<L.length:=by omega
  rw[hm,Ef (by omega)]
  repeat with_reducible first|refine nz aa ?_|apply ny;simp only[f202,hlt',go_sem];rfl
  exact⟨rfl,SameLoops.refl _,rfl,[],by simp⟩
theorem Kh{g:FuncId}{cs:List PV}{S:List Box}(z:Z)(L:List Se)(p:Se->Bool)(he:bC prog g)(hS:OwnOk 0 S)(hc:bD S.length cs=true)(hz:z=.n->L=[])(hl:L.length<=100000)(h:∀q∈L,ab prog g (b0 q::cs) S (.ret (.bool (p q))) S):
 ab prog 153 [.sl z (L.map b0),.fn (.func g) [] cs] S (.ret (.bool (L.any p))) S:=by
 have hS':∀b∈S,b.Lt S.length:=fun b hb=>by have:=hS b hb;simpa using this
 refine ab.ofB hTT func153 rfl rfl ?_ rfl hS' (th _ _|>.2 trivial);have hidx:=Ld z L p he hS hc hz hl h;rw[←lQ p L 0];by_cases h0:0<=lk p L 0
 ·rw[Ej h0]
  repeat with_reducible first|refine nz (ar aa (ent func202 rfl) hidx (SameLoops.refl _)) ?_|apply ny;simp only[f153,cp,h0,EO,go_sem];rfl
  exact⟨rfl,SameLoops.refl _,rfl,[],by simp⟩
 ·rw[Ei h0]
  repeat with_reducible first|refine nz (ar aa (ent func202 rfl) hidx (SameLoops.refl _)) ?_|apply ny;simp only[f153,cp,h0,EO,go_sem];rfl
  exact⟨rfl,SameLoops.refl _,rfl,[],by simp⟩
theorem Le{g:FuncId}{cs:List PV}{S:List Box}(z:Z)(L:List Ve)(p:Ve->Bool)(he:bC prog g)(hS:OwnOk 0 S)(hc:bD S.length cs=true)(hz:z=.n->L=[])(hl:L.length<=100000)(h:∀q∈L,ab prog g (d6 q::cs) S (.ret (.bool (p q))) S):
 ab prog 152 [.sl z (L.map d6),.fn (.func g) [] cs] S (.ret (ii (lk p L 0))) S:=by
 have hS':∀b∈S,b.Lt S.length:=fun b hb=>by have:=hS b hb;simpa using this
 refine ab.ofB hTT func152 rfl rfl ?_ rfl hS' (DO _ _ _|>.2 trivial);repeat with_reducible first|refine nz aa ?_|apply ny;simp only[f152,go_sem];rfl
 refine am.keep [8,7,6,4,0,1] (by simp only[go_sem];rfl) ?_
 refine am.loop (fun i s'=>lk p L 0=lk p (L.drop i) i∧s'=⟨[(8,ii i),(7,ii L.length),(6,.sl z (L.map d6)),(4,ii 0),(0,.sl z (L.map d6)),(1,.fn (.func g) [] cs)],19,S⟩) L.length ⟨rfl,by simp only[go_sem]⟩ ?_
 rintro i _ hi ⟨hm,rfl⟩;by_cases hlt:i<L.length
 ·obtain⟨q,hq⟩:=gex hlt
  have hq':(L.map d6)[i]?=some (.agg [.sl q.1 (q.2.map b0)]):=by rw[Eh,hq];rfl
  have hlt':(i:Int)<L.length:=by omega
  have hz':z≠.n:=fun e=>by rw[hz e]at hlt;simp at hlt
  have e4:=wIs i (by omega)
  rw[aP hq,fX]at hm;have hcall:ab prog g (.agg [.sl q.1 (q.2.map b0)]::cs) S (.ret (.bool (p q))) S:=h q (DU hq);cases hpq:p q
  ·rw[hpq]at hm hcall
   repeat with_reducible first|refine nz (ar aa he hcall (SameLoops.refl _)) ?_|apply ny;simp only[f152,cp,hlt',hq',hz',e4,go_sem];rfl
   refine ak.k [8,7,6,4,0,1] hlt (by simp only[go_sem];rfl) ⟨by rw[hm];rfl,by simp only[go_sem]⟩
  ·rw[hpq]at hm hcall
   have hm:lk p L 0=(i:Int):=hm;rw[hm];repeat with_reducible first|refine nz (ar aa he hcall (SameLoops.refl _)) ?_|apply ny;simp only[f152,cp,hlt',hq',hz',e4,go_sem];rfl
   exact⟨rfl,SameLoops.refl _,rfl,[],by simp⟩
 ·have hlt':¬(i:Int)<L.length:=by omega
  rw[hm,Ef (by omega)]
  repeat with_reducible first|refine nz aa ?_|apply ny;simp only[f152,hlt',go_sem];rfl
  exact⟨rfl,SameLoops.refl _,rfl,[],by simp⟩
theorem J3{g:FuncId}{cs:List PV}{S:List Box}(z:Z)(L:List Ve)(p:Ve->Bool)(he:bC prog g)(hS:OwnOk 0 S)(hc:bD S.length cs=true)(hz:z=.n->L=[])(hl:L.length<=100000)(h:∀q∈L,ab prog g (d6 q::cs) S (.ret (.bool (p q))) S):
 ab prog 102 [.sl z (L.map d6),.fn (.func g) [] cs] S (.ret (.bool (L.any p))) S:=by
 have hS':∀b∈S,b.Lt S.length:=fun b hb=>by have:=hS b hb;simpa using this
 refine ab.ofB hTT func102 rfl rfl ?_ rfl hS' (th _ _|>.2 trivial);have hidx:=Le z L p he hS hc hz hl h;rw[←lQ p L 0];by_cases h0:0<=lk p L 0
 ·rw[Ej h0]
  repeat with_reducible first|refine nz (ar aa (ent func152 rfl) hidx (SameLoops.refl _)) ?_|apply ny;simp only[f102,cp,h0,EO,go_sem];rfl
  exact⟨rfl,SameLoops.refl _,rfl,[],by simp⟩
 ·rw[Ei h0]
  repeat with_reducible first|refine nz (ar aa (ent func152 rfl) hidx (SameLoops.refl _)) ?_|apply ny;simp only[f102,cp,h0,EO,go_sem];rfl
  exact⟨rfl,SameLoops.refl _,rfl,[],by simp⟩
theorem in_101(x a b:Int):ab prog 101 [ii x,ii a,ii b] [] (.ret (.bool (inB x a b))) []:=by
 refine ab.of0 hTT func101 rfl rfl ?_;unfold inB;by_cases h1:a<=x <;> by_cases h2:x<=b
 all_goals
  repeat with_reducible first|refine nz aa ?_|apply ny;simp only[f101,EO,h1,h2,go_sem];rfl
  refine⟨rfl,rfl,_,rfl,?_⟩;simp only[h1,h2];rfl
theorem KZ:al prog 101 cin:=al.of0 (ent func101 rfl) fun args sg r sg' h=>by
 unfold cin at h;split at h <;> cases h
 exact⟨_,rfl,rfl,rfl,in_101 _ _ _⟩
def Kq:CallF:=aE cf0 101 cin
theorem k6:CallFOk prog Kq:=ah aa KZ
theorem Kk{S:List Box}{k:Nat}{x:Box}(h:S[k]?=some x)(B:List Box):(S++B)[k]?=some x:=by
 rw[DY (DR.1 h).1];exact h
theorem mv_156{S:List Box}{kv kb:Nat}{v:Ve}{b:Bk}(m:Mv)(hS:OwnOk 0 S)(hv:S[kv]?=some (.var [.sl v.1 (v.2.map b0)] false))(hb:S[kb]?=some (.var b.cells false))(hl:v.2.length<=1000)(ht:-1000<=b.tunes∧b.tunes<=1000):
 ab prog 156 [fx m,.bp kv 0,.bp kb 0] S (.ret (.bool (!mvB b.cues b.tunes v.2.length m))) S:=by
 have hS':∀b∈S,b.Lt S.length:=fun b hb=>by have:=hS b hb;simpa using this
 refine ab.ofB hTT func156 rfl rfl ?_ rfl hS' (th _ _|>.2 trivial);have g0:=dS S;have gs0:=gq S;have gv:=Kk hv;have gb:=Kk hb;have e1:IntKind.i64.wrap ((v.2.length:Int)-1)=(v.2.length:Int)-1:=ai (by omega) (by omega)
 have e2:IntKind.i64.wrap (b.tunes-1)=b.tunes-1:=ai (by omega) (by omega)
 have hem:fx m=.agg [ii m.1,ii m.2]:=rfl;rw[hem];unfold mvB;cases h1:inB m.1 0 ((v.2.length:Int)-1)
 ·repeat with_reducible first|refine nz k6 ?_|apply ny;simp only[f156,Kq,cin,g0,gs0,gv,gb,e1,h1,go_sem];rfl
  exact⟨rfl,SameLoops.app [.var [ii m.1,ii m.2] false] rfl (SameLoops.refl S),rfl,_,rfl⟩
 ·cases h2:inB m.2 0 (b.tunes-1)
  ·repeat with_reducible first|refine nz k6 ?_|apply ny;simp only[f156,Kq,cin,g0,gs0,gv,gb,e1,e2,h1,h2,go_sem];rfl
   exact⟨rfl,SameLoops.app [.var [ii m.1,ii m.2] false] rfl (SameLoops.refl S),rfl,_,rfl⟩
  ·repeat with_reducible first|refine nz k6 ?_|apply ny;simp only[f156,Kq,cin,g0,gs0,gv,gb,e1,e2,h1,h2,go_sem];rfl
   exact⟨rfl,SameLoops.app [.var [ii m.1,ii m.2] false] rfl (SameLoops.refl S),rfl,_,rfl⟩
theorem J4{α:Type}(p:α->Bool):∀l:List α,(l.any fun x=>!p x)=!(l.all p)
 |[]=>rfl
 |x::l=>by rw[GG,Fv,J4 p l,Bool.not_and]
theorem KT{S:List Box}{kv kb:Nat}{v:Ve}{b:Bk}(q:Se)(hS:OwnOk 0 S)(hv:S[kv]?=some (.var [.sl v.1 (v.2.map b0)] false))(hb:S[kb]?=some (.var b.cells false))(hl:v.2.length<=1000)(ht:-1000<=b.tunes∧b.tunes<=1000)(hq:zOk q.1 (q.2.map fx)=true)(hcu:b.cues<=1000):
 ab prog 154 [b0 q,.bp kb 0,.bp kv 0] S (.ret (.bool (!u3 b.cues b.tunes v.2.length q.2))) S:=by
 have hS':∀b∈S,b.Lt S.length:=fun b hb=>by have:=hS b hb;simpa using this
 refine ab.ofB hTT func154 rfl rfl ?_ rfl hS' (th _ _|>.2 trivial);have hkv:=(DR.1 hv).1;have hkb:=(DR.1 hb).1;have hlt:bD S.length [PV.bp kv 0,.bp kb 0]=true:=by
  show(Nat.blt kv S.length&&(Nat.blt kb S.length&&true))=true
  simp[hkv,hkb]
 have heq:b0 q=.sl q.1 (q.2.map fx):=rfl;rw[heq];unfold u3;by_cases h1:(q.2.length:Int)=b.cues
 ·have h1':((q.2.length:Int) != b.cues)=false:=by rw[h1];simp
  rw[Ej h1,EJ];have hcall:=J8 (g:=156) (cs:=[.bp kv 0,.bp kb 0]) (S:=S) q.1 q.2 (fun m=>!mvB b.cues b.tunes v.2.length m) (ent func156 rfl) hS hlt (fun e=>bd hq e) (by omega) fun m _=>mv_156 m hS hv hb hl ht
  rw[J4]at hcall;generalize q.2.all (mvB b.cues b.tunes v.2.length)=bb at hcall ⊢;repeat with_reducible first|refine nz (ar aa (ent func155 rfl) hcall (SameLoops.refl _)) ?_|apply ny;simp only[f154,cp,bl,hv,hb,h1',go_sem];rfl
  exact⟨rfl,SameLoops.refl _,rfl,[],by simp⟩
 ·have h1':((q.2.length:Int) != b.cues)=true:=eC h1
  rw[Ei h1,Bool.false_and];repeat with_reducible first|refine nz aa ?_|apply ny;simp only[f154,bl,hv,hb,h1',go_sem];rfl
  exact⟨rfl,SameLoops.refl _,rfl,[],by simp⟩
end Go.Pv
