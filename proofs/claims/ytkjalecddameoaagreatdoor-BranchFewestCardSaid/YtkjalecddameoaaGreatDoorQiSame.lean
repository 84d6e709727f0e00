import Derived.Test.YtkjalecddameoaaGreatDoorQiPut
import Derived.Test.YtkjalecddameoaaGreatDoorQgPlays
set_option linter.all false
open Go.Proofs.Tryz
namespace Go.Pv
open Go Go.RowKit Go.Proofs
set_option maxRecDepth 200000
set_option maxHeartbeats 8000000
theorem tt{a b:List Int}{i:Nat}{x y:Int}(ha:a[i]?=some x)(hb:b[i]?=some y):aV (a.drop i) (b.drop i)=if x=y then aV (a.drop (i+1)) (b.drop (i+1))else decide (x<y):=by
 rw[aP ha,aP hb,aV]
theorem oh{a b:List Int}{i:Nat}(h:a.length<=i∨b.length<=i)(hi:i<=a.length∧i<=b.length):aV (a.drop i) (b.drop i)=decide (a.length<b.length):=by
 rcases h with h|h
 ·rw[Ef h]
  by_cases hb:b.length<=i
  ·rw[Ef hb,Ei (by omega)];rfl
  ·rw[aP (DT (show i<b.length by omega)),Ej (by omega)];rfl
 ·rw[Ef h]
  by_cases ha:a.length<=i
  ·rw[Ef ha,Ei (by omega)];rfl
  ·rw[aP (DT (show i<a.length by omega)),Ei (by omega)];rfl
theorem yv(za zb:Z)(a b:List Int)(ha:za=.n->a=[])(hb:zb=.n->b=[])(hs:a.length<=100000):ab prog 28 [.sl za (a.map ii),.sl zb (b.map ii)] [] (.ret (.bool (aV a b))) []:=by
 refine ab.of0 hTT func28 rfl rfl ?_;repeat with_reducible first|refine nz aa ?_|apply ny;simp only[f28,go_sem];rfl
 refine am.keep [5,4,0,1] (by simp only[go_sem];rfl) ?_
 refine am.loop (fun i s'=>(i<=b.length∧aV a b=aV (a.drop i) (b.drop i))∧s'=⟨[(5,ii (i:Nat)),(4,.bool false),(0,.sl za (a.map ii)),(1,.sl zb (b.map ii))],41,[]⟩) a.length ⟨⟨Ee _,rfl⟩,by simp only[go_sem]⟩ ?_
 rintro i _ hi ⟨⟨hib,hm⟩,rfl⟩;have hla:decide ((a.length:Int)<b.length)=decide (a.length<b.length):=by rw[Fa];omega
 by_cases hlt:i<a.length
 ·have hlt':(i:Int)<a.length:=by omega
  by_cases hlb:i<b.length
  ·have hlb':(i:Int)<b.length:=by omega
   obtain⟨x,hx⟩:=gex hlt;obtain⟨y,hy⟩:=gex hlb;have hx':(a.map ii)[i]?=some (ii x):=aw hx;have hy':(b.map ii)[i]?=some (ii y):=aw hy;have hza:za≠.n:=fun e=>by rw[ha e]at hlt;simp at hlt
   have hzb:zb≠.n:=fun e=>by rw[hb e]at hlb;simp at hlb
   have e4:=wIs i (by omega)
   rw[tt hx hy]at hm;by_cases hxy:x=y
   ·have hne:(x != y)=false:=by simp[hxy]
    rw[DZ hxy]at hm;repeat with_reducible first|refine nz aa ?_|apply ny;simp only[f28,hx',hy',hlt',hlb',hza,hzb,hne,e4,go_sem];rfl
    refine ak.t 0 [5,4,0,1] hlt (by simp only[aF,an,go_sem]) ⟨⟨hlb,hm⟩,by simp only[go_sem]⟩
   ·have hne:(x != y)=true:=by simp[hxy]
    rw[D5 hxy]at hm;repeat with_reducible first|refine nz aa ?_|apply ny;simp only[f28,hx',hy',hlt',hlb',hza,hzb,hne,e4,go_sem];rfl
    exact⟨rfl,rfl,_,rfl,by rw[hm];rfl⟩
  ·have hlb':¬(i:Int)<b.length:=by omega
   rw[oh (.inr (by omega)) ⟨by omega,hib⟩,←hla]at hm
   repeat with_reducible first|refine nz aa ?_|apply ny;simp only[f28,hlt',hlb',go_sem];rfl
   exact⟨rfl,rfl,_,rfl,by rw[hm];rfl⟩
 ·have hlt':¬(i:Int)<a.length:=by omega
  rw[oh (.inl (by omega)) ⟨hi,hib⟩,←hla]at hm
  repeat with_reducible first|refine nz aa ?_|apply ny;simp only[f28,hlt',go_sem];rfl
  exact⟨rfl,rfl,_,rfl,by rw[hm];rfl⟩
def c28:Tb_
 |[v,w],sg=>match aN v,aN w with
  |some a,some b=>if a.length<=100000 then some (.ret (.bool (aV a b)),sg)else none
  |_,_=>none
 |_,_=>none
theorem c28_ok:al prog 28 c28:=al.of0 (ent func28 rfl) fun args sg r sg' h=>by
 unfold c28 at h;split at h <;> try (cases h;done)
 split at h <;> try (cases h;done)
 rename_i h1 h2;split at h <;> cases h
 rename_i hc;obtain⟨za,rfl,ha⟩:=aJ h1;obtain⟨zb,rfl,hb⟩:=aJ h2;exact⟨_,rfl,rfl,by rw[af,bt,af,bt];rfl,yv _ _ _ _ ha hb hc⟩
def l3:PV->Option (List (List Int))
 |.sl z es=>if zOk z es=true then dM mS es else none
 |_=>none
theorem fK{v:PV}{l:List (List Int)}(h:l3 v=some l):∃z,v=.sl z (l.map slx)∧(z=.n->l=[]):=by
 unfold l3 at h;split at h <;> try (cases h;done)
 split at h <;> try (cases h;done)
 rename_i hz;obtain rfl:=bv oI h;exact⟨_,rfl,bd hz⟩
theorem kq{z:Z}{l:List (List Int)}(hz:z=.n->l=[]):l3 (.sl z (l.map slx))=some l:=by
 have h:zOk z (l.map slx)=true:=by
  cases z with
  |n=>rw[hz rfl];rfl
  |a=>rfl
  |f=>rfl
 show(if zOk z (l.map slx)=true then dM mS (l.map slx)else none)=some l
 rw[DZ h,fc (g:=slx) n8]
theorem jp(m:Nat)(z:Z)(l:List (List Int)):(PV.sl z (l.map slx)).ltB m=true:=bq m _ (aC l)
def cfD1:CallF:=aE cf0 29 yD
theorem pL:CallFOk prog cfD1:=ah aa sA
theorem oQ(za zb:Z)(a b:List (List Int))(ha:za=.n->a=[])(hb:zb=.n->b=[])(hs:a.length<=100000)(hl:∀x∈a,x.length<=maxLen):ab prog 100 [.sl za (a.map slx),.sl zb (b.map slx)] [] (.ret (.bool (decide (a=b)))) []:=by
 refine ab.of0 hTT func100 rfl rfl ?_;by_cases hab:a.length=b.length
 ·repeat with_reducible first|refine nz aa ?_|apply ny;simp only[f100,hab,go_sem];rfl
  refine am.keep [5,4,0,1] (by simp only[go_sem];rfl) ?_
  refine am.loop (fun i s'=>decide (a=b)=decide (a.drop i=b.drop i)∧s'=⟨[(5,ii (i:Nat)),(4,.bool false),(0,.sl za (a.map slx)),(1,.sl zb (b.map slx))],27,[]⟩) b.length ⟨rfl,by simp only[go_sem]⟩ ?_
  rintro i _ hi ⟨hm,rfl⟩;by_cases hlt:i<b.length
  ·obtain⟨x,hx⟩:∃x,a[i]?=some x:=⟨_,DT (by omega)⟩
   obtain⟨y,hy⟩:=gex hlt;have hx':(a.map slx)[i]?=some (.sl .a (x.map ii)):=aw hx;have hy':(b.map slx)[i]?=some (.sl .a (y.map ii)):=aw hy;have hlt':(i:Int)<b.length:=by omega
   have hza:za≠.n:=fun e=>by rw[ha e]at hab;simp at hab;omega
   have hzb:zb≠.n:=fun e=>by rw[hb e]at hlt;simp at hlt
   have e4:=wIs i (by omega)
   have hxl:=hl x (DU hx);have hdx:aN (.sl .a (x.map ii))=some x:=aI rfl;have hdy:aN (.sl .a (y.map ii))=some y:=aI rfl;have hcx:=ac x;have hcy:=ac y;by_cases hxy:x=y
   ·have hde:decide (x=y)=true:=Ej hxy
    repeat with_reducible first|refine nz pL ?_|apply ny;simp only[f100,cfD1,yD,hab,hx',hy',hlt',hza,hzb,hdx,hdy,hxl,hcx,hcy,hde,e4,go_sem];rfl
    refine ak.t 0 [5,4,0,1] hlt (by simp only[an,bL,go_sem]) ⟨by rw[hm,ce hx hy,hde];rfl,by simp only[go_sem]⟩
   ·have hde:decide (x=y)=false:=Ei hxy
    repeat with_reducible first|refine nz pL ?_|apply ny;simp only[f100,cfD1,yD,hab,hx',hy',hlt',hza,hzb,hdx,hdy,hxl,hcx,hcy,hde,e4,go_sem];rfl
    refine⟨rfl,rfl,_,rfl,?_⟩;rw[hm,ce hx hy,hde];rfl
  ·have hlt':¬(i:Int)<b.length:=by omega
   repeat with_reducible first|refine nz aa ?_|apply ny;simp only[f100,hab,hlt',go_sem];rfl
   refine⟨rfl,rfl,_,rfl,?_⟩;rw[hm,Ef (by omega),Ef (by omega)];rfl
 ·have hl':((a.length:Int) != (b.length:Int))=true:=eC (by omega)
  repeat with_reducible first|refine nz aa ?_|apply ny;simp only[f100,hl',go_sem];rfl
  refine⟨rfl,rfl,_,rfl,?_⟩;rw[Ei (fun e=>hab (by rw[e]))];rfl
def cSls:Tb_
 |[v,w],sg=>match l3 v,l3 w with
  |some a,some b=>if a.length<=100000∧(a.all fun x=>decide (x.length<=maxLen))=true then some (.ret (.bool (decide (a=b))),sg)else none
  |_,_=>none
 |_,_=>none
theorem wl:al prog 100 cSls:=al.of0 (ent func100 rfl) fun args sg r sg' h=>by
 unfold cSls at h;split at h <;> try (cases h;done)
 split at h <;> try (cases h;done)
 rename_i h1 h2;split at h <;> cases h
 rename_i hc;obtain⟨za,rfl,ha⟩:=fK h1;obtain⟨zb,rfl,hb⟩:=fK h2;exact⟨_,rfl,rfl,by rw[af,jp,af,jp];rfl,oQ _ _ _ _ ha hb hc.1 fun x hx=>Eu (D7.1 hc.2 x hx)⟩
def cfD2:CallF:=aE cf0 100 cSls
theorem cfD2_ok:CallFOk prog cfD2:=ah aa wl
theorem qg(za zb:Z)(a b:List (List Int))(ha:za=.n->a=[])(hb:zb=.n->b=[])(hs:a.length<=100000)(hl:(a.all fun x=>decide (x.length<=maxLen))=true):ab prog 40 [.sl za (a.map slx),.sl zb (b.map slx)] [] (.ret (.bool (decide (a=b)))) []:=by
 refine ab.of0 hTT func40 rfl rfl ?_;have h1:=kq ha;have h2:=kq hb;have h3:=aC a;have h4:=aC b;repeat with_reducible first|refine nz cfD2_ok ?_|apply ny;simp only[f40,cfD2,cSls,h1,h2,h3,h4,hs,hl,go_sem];rfl
 exact⟨rfl,rfl,_,rfl,rfl⟩
theorem Cx:al prog 40 cSls:=al.of0 (ent func40 rfl) fun args sg r sg' h=>by
 unfold cSls at h;split at h <;> try (cases h;done)
 split at h <;> try (cases h;done)
 rename_i h1 h2;split at h <;> cases h
 rename_i hc;obtain⟨za,rfl,ha⟩:=fK h1;obtain⟨zb,rfl,hb⟩:=fK h2;exact⟨_,rfl,rfl,by rw[af,jp,af,jp];rfl,qg _ _ _ _ ha hb hc.1 hc.2⟩
theorem q7(za zb:Z)(a b:List Int)(ha:za=.n->a=[])(hb:zb=.n->b=[])(hs:a.length<=100000):ab prog 32 [.sl za (a.map ii),.sl zb (b.map ii)] [] (.ret (.bool (decide (a=b)))) []:=by
 refine ab.of0 hTT func32 rfl rfl ?_;by_cases hab:a.length=b.length
 ·repeat with_reducible first|refine nz aa ?_|apply ny;simp only[f32,hab,go_sem];rfl
  refine am.keep [5,4,0,1] (by simp only[go_sem];rfl) ?_
  refine am.loop (fun i s'=>decide (a=b)=decide (a.drop i=b.drop i)∧s'=⟨[(5,ii (i:Nat)),(4,.bool false),(0,.sl za (a.map ii)),(1,.sl zb (b.map ii))],26,[]⟩) b.length ⟨rfl,by simp only[go_sem]⟩ ?_
  rintro i _ hi ⟨hm,rfl⟩;by_cases hlt:i<b.length
  ·obtain⟨x,hx⟩:∃x,a[i]?=some x:=⟨_,DT (by omega)⟩
   obtain⟨y,hy⟩:=gex hlt;have hx':(a.map ii)[i]?=some (ii x):=aw hx;have hy':(b.map ii)[i]?=some (ii y):=aw hy;have hlt':(i:Int)<b.length:=by omega
   have hza:za≠.n:=fun e=>by rw[ha e]at hab;simp at hab;omega
   have hzb:zb≠.n:=fun e=>by rw[hb e]at hlt;simp at hlt
   have e4:=wIs i (by omega)
   by_cases hxy:x=y
   ·have hne:(x != y)=false:=by simp[hxy]
    repeat with_reducible first|refine nz aa ?_|apply ny;simp only[f32,hab,hx',hy',hlt',hza,hzb,hne,e4,go_sem];rfl
    refine ak.t 0 [5,4,0,1] hlt (by simp only[aF,an,go_sem]) ⟨by rw[hm,ce hx hy,Ej hxy];rfl,by simp only[go_sem]⟩
   ·have hne:(x != y)=true:=by simp[hxy]
    repeat with_reducible first|refine nz aa ?_|apply ny;simp only[f32,hab,hx',hy',hlt',hza,hzb,hne,e4,go_sem];rfl
    refine⟨rfl,rfl,_,rfl,?_⟩;rw[hm,ce hx hy,Ei hxy];rfl
  ·have hlt':¬(i:Int)<b.length:=by omega
   repeat with_reducible first|refine nz aa ?_|apply ny;simp only[f32,hab,hlt',go_sem];rfl
   refine⟨rfl,rfl,_,rfl,?_⟩;rw[hm,Ef (by omega),Ef (by omega)];rfl
 ·have hl':((a.length:Int) != (b.length:Int))=true:=eC (by omega)
  repeat with_reducible first|refine nz aa ?_|apply ny;simp only[f32,hl',go_sem];rfl
  refine⟨rfl,rfl,_,rfl,?_⟩;rw[Ei (fun e=>hab (by rw[e]))];rfl
def cSw:Tb_
 |[v,w],sg=>match aN v,aN w with
  |some a,some b=>if a.length<=100000 then some (.ret (.bool (decide (a=b))),sg)else none
  |_,_=>none
 |_,_=>none
theorem c32_ok:al prog 32 cSw:=al.of0 (ent func32 rfl) fun args sg r sg' h=>by
 unfold cSw at h;split at h <;> try (cases h;done)
 split at h <;> try (cases h;done)
 rename_i h1 h2;split at h <;> cases h
 rename_i hc;obtain⟨za,rfl,ha⟩:=aJ h1;obtain⟨zb,rfl,hb⟩:=aJ h2;exact⟨_,rfl,rfl,by rw[af,bt,af,bt];rfl,q7 _ _ _ _ ha hb hc⟩
theorem slim_30(z:Z)(l:List Int):ab prog 30 [.sl z (l.map ii)] [] (.ret (.bool (decide (l.length<=12)))) []:=by
 refine ab.of0 hTT func30 rfl rfl ?_;have hd:decide ((l.length:Int)<=12)=decide (l.length<=12):=by rw[Fa];omega
 repeat with_reducible first|refine nz aa ?_|apply ny;simp only[f30,hd,go_sem];rfl
 exact⟨rfl,rfl,_,rfl,rfl⟩
def c30:Tb_
 |[v],sg=>match aN v with
  |some l=>some (.ret (.bool (decide (l.length<=12))),sg)
  |none=>none
 |_,_=>none
theorem c30_ok:al prog 30 c30:=al.of0 (ent func30 rfl) fun args sg r sg' h=>by
 unfold c30 at h;split at h <;> try (cases h;done)
 split at h <;> cases h
 rename_i h1;obtain⟨z,rfl,_⟩:=aJ h1;exact⟨_,rfl,rfl,by rw[af,bt];rfl,slim_30 z _⟩
def ub(s:Sty):Bool:=((s.rz.take 13).all fun q=>decide (q.2.to.length<=6))&&decide (s.sc.length<=10)&&decide (s.rz.length<=12)
theorem short_19(s:Sty)(hok:s.ok=true):ab prog 19 [.agg s.cells] [] (.ret (.bool (ub s))) []:=by
 refine ab.of0 hTT func19 rfl rfl ?_;have h1:=ap s.sc;have h2:=ao s.rz;unfold ub;repeat with_reducible first|refine nz aa ?_|apply ny;simp only[f19,go_sem];rfl
 refine am.keep [3,2,1] (by simp only[go_sem];rfl) ?_
 obtain⟨T,hT⟩:∃T,T=s.rz.take 13:=⟨_,rfl⟩;have hTl:T.length=min 13 s.rz.length:=by rw[hT,En]
 rw[←hT];obtain⟨p,hp⟩:∃p:Rz->Bool,p=fun q=>decide (q.2.to.length<=6):=⟨_,rfl⟩
 rw[←hp];refine am.loop (fun i s'=>T.all p=(T.drop i).all p∧s'=⟨[(3,ii (i:Nat)),(2,.bool false),(1,.bp 0 0)],33,[.var s.cells false]⟩) T.length ⟨rfl,by simp only[go_sem]⟩ ?_
 rintro i _ hi ⟨hm,rfl⟩;by_cases hlt:i<T.length
 ·obtain⟨q,hq⟩:=gex hlt
  have hq0:s.rz[i]?=some q:=by rw[hT,Gu (by omega)]at hq;exact hq
  have hq':(s.rz.map aT)[i]?=some (.agg [ii q.2.frm,.sl q.1 (q.2.to.map ii)]):=aw hq0;have hlt1:(i:Int)<s.rz.length:=by omega
  have hlt2:(i:Int)<13:=by omega
  have hz':s.zr≠.n:=fun e=>by have:=bd (Sty.ok_r hok) e;rw[this,ET]at hlt1;omega
  have e4:=wIs i (by omega)
  rw[G9 hq]at hm;by_cases hql:q.2.to.length<=6
  ·have hg:¬(6:Int)<(q.2.to.length:Int):=by omega
   rw[show p q=true by rw[hp];exact Ej hql,EJ]at hm
   repeat with_reducible first|refine nz aa ?_|apply ny;simp only[f19,hq',hlt1,hlt2,hz',e4,hg,EW,go_sem];rfl
   refine ak.t 1 [3,2,1] hlt (by simp only[aA,az,an,go_sem]) ⟨hm,by simp only[go_sem]⟩
  ·have hg:(6:Int)<(q.2.to.length:Int):=by omega
   rw[show p q=false by rw[hp];exact Ei hql,Gj]at hm
   repeat with_reducible first|refine nz aa ?_|apply ny;simp only[f19,hq',hlt1,hlt2,hz',e4,hg,EW,go_sem];rfl
   exact⟨rfl,rfl,_,rfl,by rw[hm];rfl⟩
 ·rw[Ef (by omega)]at hm
  have hd1:decide ((s.sc.length:Int)<=10)=decide (s.sc.length<=10):=by rw[Fa];omega
  have hd2:decide ((s.rz.length:Int)<=12)=decide (s.rz.length<=12):=by rw[Fa];omega
  have hx:(i:Int)<s.rz.length->¬(i:Int)<13:=fun _=>by omega
  by_cases h1:(i:Int)<s.rz.length
  ·have h2:=hx h1
   cases h3:decide (s.sc.length<=10)
   ·repeat with_reducible first|refine nz aa ?_|apply ny;simp only[f19,h1,h2,hd1,hd2,h3,go_sem];rfl
    exact⟨rfl,rfl,_,rfl,by rw[hm];rfl⟩
   ·repeat with_reducible first|refine nz aa ?_|apply ny;simp only[f19,h1,h2,hd1,hd2,h3,go_sem];rfl
    exact⟨rfl,rfl,_,rfl,by rw[hm];rfl⟩
  ·cases h3:decide (s.sc.length<=10)
   ·repeat with_reducible first|refine nz aa ?_|apply ny;simp only[f19,h1,hd1,hd2,h3,go_sem];rfl
    exact⟨rfl,rfl,_,rfl,by rw[hm];rfl⟩
   ·repeat with_reducible first|refine nz aa ?_|apply ny;simp only[f19,h1,hd1,hd2,h3,go_sem];rfl
    exact⟨rfl,rfl,_,rfl,by rw[hm];rfl⟩
def c19:Tb_
 |[v],sg=>match cS v with
  |some s=>some (.ret (.bool (ub s)),sg)
  |none=>none
 |_,_=>none
theorem c19_ok:al prog 19 c19:=al.of0 (ent func19 rfl) fun args sg r sg' h=>by
 unfold c19 at h;split at h <;> try (cases h;done)
 split at h <;> cases h
 rename_i s h1;obtain⟨rfl,hok⟩:=aM h1;exact⟨_,rfl,rfl,by rw[af,cm];rfl,short_19 s hok⟩
theorem ddR_nil(L:List (List Nat×List Int)):L.map (ddR [])=L.map ddV:=rfl
theorem vm(s:Sty)(hok:s.ok=true)(hP:PartsOk s.e s.sc s.rl):∀f,DoneP s f
 |0=>fun zf zr form R _ _ _ _ _ hwt=>absurd hwt (Nat.not_lt_zero _)
 |f+1=>yK s hok hP f (vm s hok hP f)
def cfF1:CallF:=aE cf0 80 c80
theorem ph:CallFOk prog cfF1:=ah aa c80_ok
theorem All_93(s:Sty)(hok:s.ok=true)(hst:s.story=true):ab prog 93 [.agg s.cells] [] (.ret (ofV (fU s.e s.sc s.rl))) []:=by
 refine ab.ofF hTT func93 rfl rfl ?_;have hS:=Sty.story_ok hst;have hP:=hS.toPartsOk;have hd:=aS s hok;have h1:=ap s.sc;have h2:=ao s.rz;have h3:=ac s.rm;have h4:=ac s.rn;have hpp:=Sty.story_parts hst;have he1:=hP.e1;have he6:=hP.e6;have hf0:bN s.e [0]=some 0:=by rw[bN,DZ (by omega)]
 have hw:wtF s.e [0]+1<=20000:=by
  have:wtF s.e [0]=5 ^ (s.e-0).toNat:=by unfold wtF wtM;simp
  have h5:5 ^ (s.e-0).toNat<=5 ^ 6:=FA (by omega) (by omega)
  have h6:(5:Nat) ^ 6=15625:=by decide
  omega
 have h40:=gf hS;have hdn:=vm s hok hP (wtF s.e [0]+1) .f .n [0] [] (by decide) (fun _=>rfl) (fun h=>by rw[hf0]at h;cases h) (by simp) (fun x hx=>by simp at hx;subst hx;omega) (FG _) (by simp;omega) h40
 have hg:gC s.e (tb s) s.rl (wtF s.e [0]+1) [0]=fU s.e s.sc s.rl:=rfl;rw[hg]at hdn;have hdz:dzV s.e [0] (fU s.e s.sc s.rl).length=if decide ((fU s.e s.sc s.rl).length=0)=true then .n else .a:=by unfold dzV;rw[hf0]
 rw[hdz,ddR_nil]at hdn;obtain⟨p,l,q1,q2,q3⟩:=ri s hP;have hrm:s.rm.map ii=ii p.1::(l.map fun p=>(p.1:Int)).map ii:=by unfold Sty.rm;rw[q1];rfl
 have hln:(fU s.e s.sc s.rl).length=(manyM s.e s.num s.rl 0).1:=by
  have:=tl hP.tab hP.rlok hP.rlin (wtF s.e [0]+1) [0] hP.zero (FG _)
  have e:eJ (manyM s.e (s.e.toNat+s.sc.length) s.rl) [0]=(manyM s.e s.num s.rl 0).1:=GV _;rw[e]at this;exact this
 have ez:(Z.a=Z.n)=False:=by simp
 have hltb:bD 0 [PV.agg s.cells,.sl .a (s.rm.map ii),.sl .f [ii 0],.sl .n []]=true:=ae 0 _ (by simp[ad,PV.closed,h1,h2,h3])
 unfold ofV;by_cases h0:p.1=0
 ·have b0:((p.1:Int)==0)=true:=by rw[h0];rfl
  have hl0:fU s.e s.sc s.rl=[]:=Ew.1 (by rw[hln];omega)
  rw[hl0];rw[hrm]at h3;repeat with_reducible first|refine nz ph ?_|apply ny;simp only[f93,cfF1,c80,hd,hpp,h1,h2,h3,h4,hrm,ez,b0,go_sem];rfl
  exact⟨rfl,rfl,_,rfl,aq rfl⟩
 ·have b0:((p.1:Int)==0)=false:=by rw[EF];omega
  have h5:=cr (fU s.e s.sc s.rl);generalize fU s.e s.sc s.rl=D at hdn h5 ⊢;generalize (if decide (D.length=0)=true then Z.n else Z.a)=zz at hdn ⊢;have hrm':(s.rm.map ii)[0]?=some (ii p.1):=by rw[hrm];rfl
  have hdn:ab prog 155 [.agg s.cells,.sl .a (s.rm.map ii),.sl .f [ii 0],.sl .n []] [] (.ret (.sl zz (D.map ddV))) []:=hdn;have hrl:(0:Int)<(s.rm.length:Int):=by rw[s.rm_len];unfold Sty.num;omega
  repeat with_reducible first|refine nz (aj ph (ent func155 rfl) hdn hltb) ?_|apply ny;simp only[f93,eA,cfF1,c80,hd,hpp,h1,h2,h3,h4,hrm',hrl,ez,b0,go_sem];rfl
  exact⟨rfl,rfl,_,rfl,aq (show ad _=true from h5)⟩
def c93:Tb_
 |[v],sg=>match cS v with
  |some s=>if s.story=true then some (.ret (ofV (fU s.e s.sc s.rl)),sg)else none
  |none=>none
 |_,_=>none
theorem c93_ok:al prog 93 c93:=al.of0 (ent func93 rfl) fun args sg r sg' h=>by
 unfold c93 at h;split at h <;> try (cases h;done)
 split at h <;> try (cases h;done)
 rename_i s h1;split at h <;> cases h
 rename_i hst;obtain⟨rfl,hok⟩:=aM h1;exact⟨_,rfl,rfl,by rw[af,cm];rfl,All_93 s hok hst⟩
def ofZ(L:List (List Nat×List Int)):Z:=if decide (L.length=0)=true then .n else .a
theorem tN(L:List (List Nat×List Int)):ofV L=.sl (ofZ L) (L.map ddV):=rfl
theorem ofZ_n{L:List (List Nat×List Int)}(h:L≠[]):ofZ L≠.n:=fun e=>by
 unfold ofZ at e;split at e
 ·rename_i hd;exact h (Ew.1 (Eu hd))
 ·cases e
def sz:CallF:=aE (aE (aE cf0 93 c93) 29 yD) 28 c28
theorem bz:CallFOk prog sz:=ah (ah (ah aa c93_ok) sA) c28_ok
theorem dx(m:Nat)(L:List (List Nat×List Int)):bD m (L.map ddV)=true:=ae m _ (cr L)
theorem of_take{T:List (List Nat×List Int)}{p:List Int}{i:Nat}{d:List Nat×List Int}(h:T[i]?=some d):(ofB (T.take (i+1)) p).length=(ofB (T.take i) p).length+if d.2=p then 1 else 0:=by
 rw[pp h,Ea];split <;> rfl
theorem RWays_35(s:Sty)(hok:s.ok=true)(hst:s.story=true)(z:Z)(p:List Int)(hz:zOk z (p.map ii)=true)(hp:p.length<=100000):ab prog 35 [.agg s.cells,.sl z (p.map ii)] [] (.ret (ii ((ofB (fU s.e s.sc s.rl) p).length:Nat))) []:=by
 refine ab.of0 hTT func35 rfl rfl ?_;have hS:=Sty.story_ok hst;have hd:=aS s hok;have h1:=ap s.sc;have h2:=ao s.rz;have hdp:aN (.sl z (p.map ii))=some p:=aI hz;have hcp:=ac p;have h5:=cr (fU s.e s.sc s.rl);have h40:=gf hS;have hpl:=fO hS;repeat with_reducible first|refine nz bz ?_|apply ny;simp only[f35,sz,c93,tN,hd,hst,h1,h2,h5,go_sem];rfl
 generalize fU s.e s.sc s.rl=D at *;have hzn:=ofZ_n (L:=D);generalize ofZ D=zz at hzn ⊢;refine am.keep [7,6,5,1] (by simp only[go_sem];rfl) ?_
 refine am.loop (fun i s'=>s'=⟨[(7,ii (i:Nat)),(6,ii ((ofB (D.take i) p).length:Nat)),(5,.sl zz (D.map ddV)),(1,.sl z (p.map ii))],26,[.var s.cells false]⟩) D.length (by simp only[go_sem];rfl) ?_
 rintro i _ hi rfl;by_cases hlt:i<D.length
 ·obtain⟨d,hdi⟩:=gex hlt
  have hd':(D.map ddV)[i]?=some (.agg [.sl .a ((bH d.1).map ii),.sl .a (d.2.map ii)]):=aw hdi;have hlt':(i:Int)<D.length:=by omega
  have hzd:=hzn (fun e=>by rw[e]at hlt;simp at hlt)
  have e4:=wIs i (by omega)
  have hdd:aN (.sl .a (d.2.map ii))=some d.2:=aI rfl;have hcd:=ac d.2;have hdl:=(hpl d (DU hdi)).1;have hdm:d.2.length<=maxLen:=by unfold maxLen;omega
  have hot:=of_take (p:=p) hdi;have hol:=ofB_le (D.take i) p;rw[En]at hol;have e5:IntKind.i64.wrap (((ofB (D.take i) p).length:Int)+1)=(((ofB (D.take i) p).length+1:Nat):Int):=ai (by omega) (by omega)
  by_cases hdp2:d.2=p
  ·have hde:decide (d.2=p)=true:=Ej hdp2
   rw[DZ hdp2]at hot;repeat with_reducible first|refine nz bz ?_|apply ny;simp only[f35,sz,yD,hd',hlt',hzd,hdd,hdp,hcd,hcp,hdm,hde,e4,e5,go_sem];rfl
   refine ak.t 1 [7,6,5,1] hlt (by simp only[aA,az,aF,an,dx,go_sem]) (by rw[hot];simp only[go_sem])
  ·have hde:decide (d.2=p)=false:=Ei hdp2
   rw[D5 hdp2]at hot;repeat with_reducible first|refine nz bz ?_|apply ny;simp only[f35,sz,yD,hd',hlt',hzd,hdd,hdp,hcd,hcp,hdm,hde,e4,go_sem];rfl
   refine ak.t 1 [7,6,5,1] hlt (by simp only[aA,az,aF,an,dx,go_sem]) (by rw[hot];simp only[go_sem])
 ·have hlt':¬(i:Int)<D.length:=by omega
  obtain rfl:i=D.length:=by omega
  rw[Eg];repeat with_reducible first|refine nz aa ?_|apply ny;simp only[f35,hlt',go_sem];rfl
  exact⟨rfl,rfl,_,rfl,rfl⟩
end Go.Pv
