import Derived.Test.YtkjalecddameoaaGreatDoorQaAl
set_option linter.all false
namespace Go.Pv
structure Sn where
 part:Int
 least:Int
 most:Int
 loose:Bool
 formula:Bool
structure Rl where
 frm:Int
 to:List Int
def inB(x a b:Int):Bool:=decide (a<=x)&&decide (x<=b)
def snB(x:Sn):Bool:=inB x.part 0 2&&inB x.least 1 240&&inB x.most x.least 240
def rlB(e n:Int)(r:Rl):Bool:=inB r.frm 0 (e-1)&&inB r.to.length 1 4&&r.to.all fun x=>inB x (r.frm+1) (n-1)
def nM(e:Int)(sc:List Sn)(rl:List Rl):Bool :=
 inB e 1 6&&inB sc.length 1 8&&inB rl.length 1 10&&sc.all snB&&rl.all (rlB e (e+sc.length))
def eo(suf:List (Nat×Nat))(m1:Nat)(x:Int):Nat×Nat:=suf.getD (x.toNat-m1) (0,0)
def nv(c:Nat->Nat)(l:List Nat):Nat:=l.foldl (fun n x=>c (n*x)) 1
def lh(suf:List (Nat×Nat))(m1:Nat)(r:Rl):Bool:=r.to.all fun x=>decide ((eo suf m1 x).1≠0)
def cM(c f:Nat->Nat)(m:Nat)(suf:List (Nat×Nat))(a:Nat×Nat)(r:Rl):Nat×Nat :=
 if r.frm=m∧lh suf (m+1) r=true then(c (a.1+nv c (r.to.map fun x=>(eo suf (m+1) x).1)),max a.2 (f (r.to.map fun x=>(eo suf (m+1) x).2).sum))else a
def nr(c f:Nat->Nat)(m:Nat)(suf:List (Nat×Nat))(rl:List Rl):Nat×Nat:=rl.foldl (cM c f m suf) (0,0)
def fm(c f:Nat->Nat)(e n:Nat)(rl:List Rl):Nat->List (Nat×Nat)
 |0=>[]
 |k+1=>(if e<=n-(k+1)then(1,1)else nr c f (n-(k+1)) (fm c f e n rl k) rl)::fm c f e n rl k
structure Cap(c:Nat->Nat):Prop where
 zero:c 0=0
 one:c 1=1
 pos:∀a,c a=0->a=0
 idem:∀a,c (c a)=c a
 add:∀a b,c (c a+c b)=c (a+b)
 mul:∀a b,c (c a*c b)=c (a*b)
 mx:∀a b,c (max a b)=max (c a) (c b)
theorem cap_id:Cap id:=⟨rfl,rfl,fun _ h=>h,fun _=>rfl,fun _ _=>rfl,fun _ _=>rfl,fun _ _=>rfl⟩
theorem gX(k:Nat)(hk:1<=k):Cap (min k):=by
 refine⟨by omega,by omega,fun a h=>by omega,fun a=>by omega,fun a b=>by omega,fun a b=>?_,fun a b=>by omega⟩
 have key:∀a b:Nat,min k (min k a*b)=min k (a*b):=fun a b=>by
  rcases Nat.le_total k a with h|h
  ·rw[F4 h]
   rcases FH b with rfl|hb
   ·simp
   ·have h1:k<=k*b:=Nat.le_mul_of_pos_right _ hb
    have h2:k<=a*b:=Em h1 (E7 _ h);rw[F4 h1,F4 h2]
  ·rw[Nat.min_eq_right h]
 rw[key,Gr,key,Gr]
def li(c f:Nat->Nat)(p:Nat×Nat):Nat×Nat:=(c p.1,f p.2)
theorem qa{c f:Nat->Nat}(hc:Cap c)(hf:Cap f)(suf:List (Nat×Nat))(m:Nat)(x:Int):eo (suf.map (li c f)) m x=li c f (eo suf m x):=by
 unfold eo;rw[Ep,Ep,Eh];cases suf[x.toNat-m]? with
 |none=>show(0,0)=li c f (0,0);unfold li;rw[hc.zero,hf.zero]
 |some p=>rfl
theorem qX{c:Nat->Nat}(hc:Cap c):∀(l:List Nat) (n:Nat),(l.map c).foldl (fun n x=>c (n*x)) (c n)=c (l.foldl (fun n x=>n*x) n)
 |[],n=>rfl
 |x::l,n=>by
  show(l.map c).foldl (fun n x=>c (n*x)) (c (c n*c x))=c (l.foldl (fun n x=>n*x) (n*x))
  rw[hc.mul,qX hc l]
theorem AO{f:Nat->Nat}(hf:Cap f):∀l:List Nat,f ((l.map f).sum)=f l.sum
 |[]=>rfl
 |x::l=>by
  rw[EE,E3,E3,←hf.add (f x),hf.idem,AO hf l,hf.add]
theorem ends_cap{c f:Nat->Nat}(hc:Cap c)(hf:Cap f)(suf:List (Nat×Nat))(m:Nat)(r:Rl):lh (suf.map (li c f)) m r=lh suf m r:=by
 unfold lh
 congr 1
 funext x
 rw[qa hc hf];show decide (c (eo suf m x).1≠0)=_;by_cases h:(eo suf m x).1=0
 ·rw[h,hc.zero]
 ·have:c (eo suf m x).1≠0:=fun e=>h (hc.pos _ e)
  simp[h,this]
theorem rule_cap{c f:Nat->Nat}(hc:Cap c)(hf:Cap f)(m:Nat)(suf:List (Nat×Nat))(a:Nat×Nat)(r:Rl):cM c f m (suf.map (li c f)) (li c f a) r=li c f (cM id id m suf a r):=by
 unfold cM;rw[ends_cap hc hf];split
 ·have h1:(r.to.map fun x=>(eo (suf.map (li c f)) (m+1) x).1)=(r.to.map fun x=>(eo suf (m+1) x).1).map c:=by
   rw[Fb];refine EP fun x _=>?_
   rw[qa hc hf];rfl
  have h2:(r.to.map fun x=>(eo (suf.map (li c f)) (m+1) x).2)=(r.to.map fun x=>(eo suf (m+1) x).2).map f:=by
   rw[Fb];refine EP fun x _=>?_
   rw[qa hc hf];rfl
  rw[h1,h2];have h3:=qX hc (r.to.map fun x=>(eo suf (m+1) x).1) 1
  rw[hc.one]at h3
  show(c (c a.1+nv c _),max (f a.2) (f _))=(c (a.1+nv id _),f (max a.2 _))
  unfold nv;rw[h3,AO hf,hc.add,hf.mx];rfl
 ·rfl
theorem cell_cap{c f:Nat->Nat}(hc:Cap c)(hf:Cap f)(m:Nat)(suf:List (Nat×Nat))(rl:List Rl):nr c f m (suf.map (li c f)) rl=li c f (nr id id m suf rl):=by
 unfold nr;have key:∀(rl:List Rl) (a:Nat×Nat),rl.foldl (cM c f m (suf.map (li c f))) (li c f a)=li c f (rl.foldl (cM id id m suf) a):=by
  intro rl;induction rl with
  |nil=>intro a;rfl
  |cons r rl ih =>
   intro a;show rl.foldl _ (cM c f m (suf.map (li c f)) (li c f a) r)=_;rw[rule_cap hc hf,ih];rfl
 have:=key rl (0,0)
 have e:li c f (0,0)=(0,0):=by unfold li;rw[hc.zero,hf.zero]
 rw[e]at this;exact this
theorem ja{c f:Nat->Nat}(hc:Cap c)(hf:Cap f)(e n:Nat)(rl:List Rl):∀k,fm c f e n rl k=(fm id id e n rl k).map (li c f)
 |0=>rfl
 |k+1=>by
  rw[fm,fm,EE,←ja hc hf e n rl k]
  congr 1
  split
  ·unfold li;rw[hc.one,hf.one]
  ·rw[ja hc hf e n rl k,cell_cap hc hf]
def kF(e n:Nat)(rl:List Rl):List (Nat×Nat):=fm id id e n rl n
def AA(e:Int)(sc:List Sn)(rl:List Rl):Bool :=
 nM e sc rl&&(let t:=((kF e.toNat (e.toNat+sc.length) rl).getD 0 (0,0));decide (t.1<=40)&&decide (t.2<=10))
theorem f7(c f:Nat->Nat)(e n:Nat)(rl:List Rl):∀k,(fm c f e n rl k).length=k
 |0=>rfl
 |k+1=>by rw[fm,Ek,f7 c f e n rl k]
theorem sO(c f:Nat->Nat)(e n:Nat)(rl:List Rl)(x:Int):∀d k,k+d<=n->n-k<=x.toNat->x.toNat<n ->
 eo (fm c f e n rl (k+d)) (n-(k+d)) x=eo (fm c f e n rl k) (n-k) x
 |0,k,_,_,_=>rfl
 |d+1,k,h,h1,h2=>by
  rw[←sO c f e n rl x d k (by omega) h1 h2]
  unfold eo;rw[show k+(d+1)=(k+d)+1 by omega,fm]
  rw[show x.toNat-(n-(k+d+1))=(x.toNat-(n-(k+d)))+1 by omega]
  rfl
theorem tab_at(c f:Nat->Nat)(e n:Nat)(rl:List Rl)(x:Int)(k:Nat)(hk:k<n)(hx:x.toNat=n-(k+1)):
 eo (fm c f e n rl n) 0 x=(if e<=n-(k+1)then(1,1)else nr c f (n-(k+1)) (fm c f e n rl k) rl):=by
 have h:=sO c f e n rl x (n-(k+1)) (k+1) (by omega) (by omega) (by omega)
 rw[show k+1+(n-(k+1))=n by omega,F9]at h
 rw[h,fm];unfold eo;rw[hx,F9];rfl
def ruleF(M:Int->Nat×Nat)(m:Int)(a:Nat×Nat)(r:Rl):Nat×Nat :=
 if r.frm=m∧(r.to.all fun x=>decide ((M x).1≠0))=true then(a.1+(r.to.map fun x=>(M x).1).foldl (·*·) 1,max a.2 ((r.to.map fun x=>(M x).2).sum))else a
theorem oD{α:Type}{l:List α}{p q:α->Bool}(h:∀x,x∈l->p x=q x):l.all p=l.all q:=by
 induction l with
 |nil=>rfl
 |cons a l ih=>rw[Fv,Fv,h a DV,ih fun x hx=>h x (DW _ hx)]
theorem nK{α β:Type}{f g:α->List β}:∀{l:List α},(∀x,x∈l->f x=g x)->l.flatMap f=l.flatMap g
 |[],_=>rfl
 |a::l,h=>by rw[E2,E2,h a DV,nK fun x hx=>h x (DW _ hx)]
theorem CC(e n:Nat)(rl:List Rl)(k:Nat)(hk:k<n)(r:Rl)(hr:∀x∈r.to,r.frm<x∧x<n)(m:Int)(h0:0<=m)(hm:m.toNat=n-(k+1))(a:Nat×Nat):
 cM id id (n-(k+1)) (fm id id e n rl k) a r=ruleF (fun x=>eo (fm id id e n rl n) 0 x) m a r:=by
 have em:((n-(k+1):Nat):Int)=m:=by omega
 unfold cM ruleF lh;rw[em];by_cases hf:r.frm=m
 ·have key:∀x∈r.to,eo (fm id id e n rl k) (n-(k+1)+1) x=eo (fm id id e n rl n) 0 x:=fun x hx=>by
   have h1:=hr x hx;have h:=sO id id e n rl x (n-k) k (by omega) (by omega) (by omega)
   rw[show k+(n-k)=n by omega,F9]at h
   rw[h,show n-(k+1)+1=n-k by omega]
  have k1:(r.to.map fun x=>(eo (fm id id e n rl k) (n-(k+1)+1) x).1)=r.to.map fun x=>(eo (fm id id e n rl n) 0 x).1:=EP fun x hx=>congrArg Prod.fst (key x hx)
  have k2:(r.to.map fun x=>(eo (fm id id e n rl k) (n-(k+1)+1) x).2)=r.to.map fun x=>(eo (fm id id e n rl n) 0 x).2:=EP fun x hx=>congrArg Prod.snd (key x hx)
  have k3:(r.to.all fun x=>decide ((eo (fm id id e n rl k) (n-(k+1)+1) x).1≠0))=r.to.all fun x=>decide ((eo (fm id id e n rl n) 0 x).1≠0):=oD fun x hx=>by rw[key x hx]
  rw[k1,k2,k3];rfl
 ·rw[D5 (fun h=>hf h.1),D5 (fun h=>hf h.1)]
def bN(e:Int):List Int->Option Nat
 |[]=>none
 |x::l=>if x<e then some 0 else(bN e l).map (·+1)
def iy(l:List Int)(a:Nat)(to:List Int):List Int:=l.take a++to++l.drop (a+1)
def iN(ok:Rl->Bool)(m:Int):List Rl->Nat->List (Nat×Rl)
 |[],_=>[]
 |r::rl,i=>if r.frm=m∧ok r=true then(i,r)::iN ok m rl (i+1)else iN ok m rl (i+1)
def gC(e:Int)(ok:Rl->Bool)(rl:List Rl):Nat->List Int->List (List Nat×List Int)
 |0,_=>[]
 |f+1,l=>match bN e l with
  |none=>[([],l.map (·-e))]
  |some a=>(iN ok (l.getD a 0) rl 0).flatMap fun ir=>(gC e ok rl f (iy l a ir.2.to)).map fun d=>(ir.1::d.1,d.2)
def wtM(e:Int)(x:Int):Nat:=5 ^ (e-x).toNat
def wtF(e:Int)(l:List Int):Nat:=(l.map (wtM e)).sum
theorem wt_pos(e x:Int):1<=wtM e x:=Nat.pow_pos (by omega)
theorem vv(e:Int)(l m:List Int):wtF e (l++m)=wtF e l+wtF e m:=by unfold wtF;rw[Ec,IT]
theorem fe{e:Int}:∀{l:List Int} {a:Nat},bN e l=some a->a<l.length∧l.getD a 0<e
 |[],a,h=>by cases h
 |x::l,a,h=>by
  rw[bN]at h;split at h
  ·next hx=>cases h;exact⟨by simp,by simpa using hx⟩
  ·cases hf:bN e l with
   |none=>rw[hf]at h;cases h
   |some b =>
    rw[hf]at h;cases h;have ih:=fe hf;refine⟨by simp;omega,?_⟩
    simpa using ih.2
theorem fT{e:Int}:∀{l:List Int},bN e l=none->∀x∈l,e<=x
 |[],_,x,hx=>by cases hx
 |y::l,h,x,hx=>by
  rw[bN]at h;split at h
  ·cases h
  ·next hy =>
   cases hf:bN e l with
   |some b=>rw[hf]at h;cases h
   |none =>
    rcases D6.1 hx with rfl|hx
    ·omega
    ·exact fT hf x hx
theorem lA{l:List Int}{a:Nat}(ha:a<l.length):l=l.take a++[l.getD a 0]++l.drop (a+1):=by
 have h1:l.getD a 0=l[a]:=by rw[Ep,DT ha];rfl
 rw[h1,Et,List.singleton_append,←Gl ha,Ff]
theorem wt_to{e m:Int}{to:List Int}(hm:m<e)(hl:to.length<=4)(ht:∀x∈to,m<x):wtF e to<wtM e m:=by
 have h:∀l:List Int,(∀x∈l,m<x)->wtF e l<=l.length*5 ^ ((e-m).toNat-1):=by
  intro l;induction l with
  |nil=>intro _;exact Ee _
  |cons x l ih =>
   intro h;have h1:=ih fun y hy=>h y (DW _ hy)
   have h2:wtM e x<=5 ^ ((e-m).toNat-1):=FA (by omega) (by have:=h x DV;omega)
   show wtM e x+wtF e l<=(l.length+1)*_;rw[E4,JB];omega
 have h1:=h to ht;have h2:to.length*5 ^ ((e-m).toNat-1)<=4*5 ^ ((e-m).toNat-1):=E7 _ hl;have h3:0<5 ^ ((e-m).toNat-1):=Nat.pow_pos (by omega)
 have h4:wtM e m=5 ^ ((e-m).toNat-1)*5:=by
  unfold wtM;rw[show(e-m).toNat=((e-m).toNat-1)+1 by omega,Nat.pow_succ]
  simp
 omega
theorem qB{e:Int}{l:List Int}{a:Nat}{to:List Int}(ha:a<l.length)(hm:l.getD a 0<e)(hl:to.length<=4)(ht:∀x∈to,l.getD a 0<x):wtF e (iy l a to)<wtF e l:=by
 have h:=wt_to hm hl ht
 conv=>rhs;rw[lA ha]
 unfold iy;rw[vv,vv,vv,vv];have:wtF e [l.getD a 0]=wtM e (l.getD a 0):=by unfold wtF;simp
 omega
theorem kd{ok:Rl->Bool}{m:Int}:∀{rl:List Rl} {i:Nat} {p:Nat×Rl},p∈iN ok m rl i->p.2∈rl∧p.2.frm=m∧ok p.2=true∧i<=p.1∧p.1<i+rl.length∧rl.getD (p.1-i) p.2=p.2
 |[],i,p,h=>by cases h
 |r::rl,i,p,h=>by
  rw[iN]at h;split at h
  ·next hr =>
   rcases D6.1 h with rfl|h
   ·exact⟨DV,hr.1,hr.2,DS _,by simp,by simp⟩
   ·have:=kd h
    refine⟨DW _ this.1,this.2.1,this.2.2.1,by omega,by simp;omega,?_⟩
    rw[show p.1-i=(p.1-(i+1))+1 by omega]
    simpa using this.2.2.2.2.2
  ·have:=kd h
   refine⟨DW _ this.1,this.2.1,this.2.2.1,by omega,by simp;omega,?_⟩
   rw[show p.1-i=(p.1-(i+1))+1 by omega]
   simpa using this.2.2.2.2.2
def RlOk(rl:List Rl):Prop:=∀r∈rl,r.to.length<=4∧∀x∈r.to,r.frm<x
structure MTab(e n:Int)(rl:List Rl)(M:Int->Nat×Nat):Prop where
 leaf:∀x,e<=x->x<n->M x=(1,1)
 node:∀m,0<=m->m<e->M m=rl.foldl (ruleF M m) (0,0)
def okF(M:Int->Nat×Nat)(r:Rl):Bool:=r.to.all fun x=>decide ((M x).1≠0)
def eJ(M:Int->Nat×Nat):List Int->Nat
 |[]=>1
 |x::l=>(M x).1*eJ M l
def ng(M:Int->Nat×Nat):List Int->Nat
 |[]=>0
 |x::l=>(M x).2+ng M l
theorem di(M:Int->Nat×Nat):∀l m,eJ M (l++m)=eJ M l*eJ M m
 |[],m=>by show _=1*_;rw[JB];rfl
 |x::l,m=>by show _*eJ M (l++m)=_*eJ M l*_;rw[di M l m,Nat.mul_assoc]
theorem mg(M:Int->Nat×Nat):∀l m,ng M (l++m)=ng M l+ng M m
 |[],m=>by show _=0+_;rw[EG];rfl
 |x::l,m=>by show _+ng M (l++m)=_+ng M l+_;rw[mg M l m,FF]
theorem qw(M:Int->Nat×Nat):∀l n,(l.map fun x=>(M x).1).foldl (·*·) n=n*eJ M l
 |[],n=>(GV n).symm
 |x::l,n=>by show(l.map fun x=>(M x).1).foldl (·*·) (n*(M x).1)=_;rw[qw M l];show _=n*((M x).1*_);rw[Nat.mul_assoc]
theorem zo(M:Int->Nat×Nat):∀l:List Int,(l.map fun x=>(M x).2).sum=ng M l
 |[]=>rfl
 |x::l=>by rw[EE,E3,zo M l];rfl
theorem jL(M:Int->Nat×Nat)(m:Int):∀(rl:List Rl) (i:Nat) (a:Nat×Nat),
 rl.foldl (ruleF M m) a=(iN (okF M) m rl i).foldl (fun a p=>(a.1+eJ M p.2.to,max a.2 (ng M p.2.to))) a
 |[],_,_=>rfl
 |r::rl,i,a=>by
  rw[EI,iN];show rl.foldl _ (ruleF M m a r)=_;by_cases h:r.frm=m∧okF M r=true
  ·have e1:ruleF M m a r=(a.1+eJ M r.to,max a.2 (ng M r.to)):=by
    have e2:ruleF M m a r=(a.1+(r.to.map fun x=>(M x).1).foldl (·*·) 1,max a.2 ((r.to.map fun x=>(M x).2).sum)):=DZ h
    rw[e2,qw,JB,zo]
   rw[DZ h,e1,EI,←jL M m rl (i+1)]
  ·have e1:ruleF M m a r=a:=D5 h
   rw[D5 h,e1,jL M m rl (i+1)]
theorem pU{α:Type}(g h:α->Nat):∀(l:List α) (a:Nat×Nat),l.foldl (fun a p=>(a.1+g p,max a.2 (h p))) a=(a.1+(l.map g).sum,l.foldl (fun n p=>max n (h p)) a.2)
 |[],a=>by simp
 |x::l,a=>by
  rw[EI,pU g h l,EE,E3,EI,FF]
theorem max_ge{α:Type}(h:α->Nat):∀(l:List α) (a:Nat),a<=l.foldl (fun n p=>max n (h p)) a∧∀p∈l,h p<=l.foldl (fun n p=>max n (h p)) a
 |[],a=>⟨DS _,fun p hp=>by cases hp⟩
 |x::l,a=>by
  rw[EI];have:=max_ge h l (max a (h x))
  refine⟨by omega,fun p hp=>?_⟩
  rcases D6.1 hp with rfl|hp
  ·omega
  ·exact this.2 p hp
theorem uB{e n:Int}{rl:List Rl}{M:Int->Nat×Nat}(hM:MTab e n rl M){m:Int}(h0:0<=m)(h1:m<e):(M m).1=((iN (okF M) m rl 0).map fun p=>eJ M p.2.to).sum:=by
 rw[hM.node m h0 h1,jL M m rl 0,pU];exact EG _
theorem tab_long{e n:Int}{rl:List Rl}{M:Int->Nat×Nat}(hM:MTab e n rl M){m:Int}(h0:0<=m)(h1:m<e):∀p∈iN (okF M) m rl 0,ng M p.2.to<=(M m).2:=by
 rw[hM.node m h0 h1,jL M m rl 0,pU];exact(max_ge (fun p:Nat×Rl=>ng M p.2.to) _ 0).2
def InF(n:Int)(l:List Int):Prop:=∀x∈l,0<=x∧x<n
theorem mo{n:Int}{l:List Int}{a:Nat}{to:List Int}(hl:InF n l)(ht:InF n to):InF n (iy l a to):=by
 intro x hx;unfold iy at hx;rcases Ez.1 hx with hx|hx
 ·rcases Ez.1 hx with hx|hx
  ·exact hl x (Ey hx)
  ·exact ht x hx
 ·exact hl x (Fc hx)
theorem p6{l:List Int}{a:Nat}(h:a<l.length):l.getD a 0∈l:=by
 rw[Ep,DT h];exact E5 h
theorem ji{e n:Int}{rl:List Rl}{M:Int->Nat×Nat}(hM:MTab e n rl M):∀l:List Int,(∀x∈l,e<=x)->InF n l->eJ M l=1∧ng M l=l.length
 |[],_,_=>⟨rfl,rfl⟩
 |x::l,h,hi=>by
  have h1:=ji hM l (fun y hy=>h y (DW _ hy)) (fun y hy=>hi y (DW _ hy))
  have h2:=hM.leaf x (h x DV) (hi x DV).2;constructor
  ·show(M x).1*_=1;rw[h1.1,h2];rfl
  ·show(M x).2+_=_;rw[h1.2,h2,Ek];omega
def RlIn(n:Int)(rl:List Rl):Prop:=∀r∈rl,InF n r.to
theorem tl{e n:Int}{rl:List Rl}{M:Int->Nat×Nat}(hM:MTab e n rl M)(hr:RlOk rl)(hi:RlIn n rl):∀f l,InF n l->wtF e l<f->(gC e (okF M) rl f l).length=eJ M l
 |0,_,_,h=>by omega
 |f+1,l,hl,hf=>by
  rw[gC];cases h:bN e l with
  |none=>exact(ji hM l (fT h) hl).1.symm
  |some a =>
   have h1:=fe h;have h2:=hl _ (p6 h1.1)
   show(List.flatMap _ _).length=_
   rw[List.length_flatMap]
   conv=>rhs;rw[lA h1.1,di,di]
   have e1:eJ M [l.getD a 0]=(M (l.getD a 0)).1:=by show _*1=_;rw[GV]
   rw[e1,uB hM h2.1 h1.2];have key:∀q:List (Nat×Rl),(∀p∈q,p∈iN (okF M) (l.getD a 0) rl 0) ->
    (q.map fun ir=>((gC e (okF M) rl f (iy l a ir.2.to)).map fun d=>(ir.1::d.1,d.2)).length).sum=eJ M (l.take a)*(q.map fun p=>eJ M p.2.to).sum*eJ M (l.drop (a+1)):=by
    intro q;induction q with
    |nil=>intro _;simp
    |cons p q ih =>
     intro hq;rw[EE,E3,ih (fun y hy=>hq y (DW _ hy)),EE,E3,DX]
     have h5:=kd (hq p DV);have h6:=hr _ h5.1;have h4:=qB h1.1 h1.2 h6.1 (fun x hx=>h5.2.1▸h6.2 x hx)
     rw[tl hM hr hi f _ (mo hl (hi _ h5.1)) (by omega)]
     unfold iy;rw[di,di,Nat.mul_add,E4]
   exact key _ fun p hp=>hp
theorem uL{e n:Int}{rl:List Rl}{M:Int->Nat×Nat}(hM:MTab e n rl M)(hi:RlIn n rl):∀f l,InF n l->∀d∈gC e (okF M) rl f l,d.2.length<=ng M l∧∀x∈d.2,0<=x∧x<n-e
 |0,_,_,d,h=>by cases h
 |f+1,l,hl,d,h=>by
  rw[gC]at h;cases hf:bN e l with
  |none =>
   rw[hf]at h;cases Ed.1 h
   refine⟨?_,?_⟩
   ·rw[(ji hM l (fT hf) hl).2];simp
   ·intro x hx
    obtain⟨y,hy,rfl⟩:=Ex.1 hx;have h1:=fT hf y hy;have h2:=hl y hy;omega
  |some a =>
   rw[hf]at h;have h1:=fe hf;have h2:=hl _ (p6 h1.1);obtain⟨p,hp,hd⟩:=Es.1 h;obtain⟨d',hd',rfl⟩:=Ex.1 hd;have h5:=kd hp;have ih:=uL hM hi f _ (mo hl (hi _ h5.1)) d' hd';refine⟨?_,ih.2⟩;have h7:=tab_long hM h2.1 h1.2 p hp;have e1:ng M l=ng M (l.take a)+(M (l.getD a 0)).2+ng M (l.drop (a+1)):=by
    conv=>lhs;rw[lA h1.1,mg,mg]
    rfl
   have e2:ng M (iy l a p.2.to)=ng M (l.take a)+ng M p.2.to+ng M (l.drop (a+1)):=by unfold iy;rw[mg,mg]
   have:=ih.1
   show d'.2.length<=_;omega
def fW(e:Int)(rl:List Rl):List Nat->List Int->Option (List Int)
 |[],l=>match bN e l with
  |none=>some (l.map (·-e))
  |some _=>none
 |i::rs,l=>match bN e l with
  |none=>none
  |some a=>match rl[i]? with
   |none=>none
   |some r=>if r.frm=l.getD a 0 then fW e rl rs (iy l a r.to)else none
theorem AL{ok:Rl->Bool}{m:Int}:∀{rl:List Rl} {i k:Nat} {r:Rl},rl[k]?=some r->r.frm=m->ok r=true->(i+k,r)∈iN ok m rl i
 |[],i,k,r,h,_,_=>by cases h
 |r'::rl,i,0,r,h,h1,h2=>by
  cases h;rw[iN,DZ ⟨h1,h2⟩];exact DV
 |r'::rl,i,k+1,r,h,h1,h2=>by
  have ih:=AL (ok:=ok) (m:=m) (rl:=rl) (i:=i+1) (k:=k) h h1 h2;rw[show i+1+k=i+(k+1)by omega]at ih
  rw[iN];split
  ·exact DW _ ih
  ·exact ih
theorem for_get{ok:Rl->Bool}{m:Int}{rl:List Rl}{p:Nat×Rl}(h:p∈iN ok m rl 0):rl[p.1]?=some p.2:=by
 have h5:=kd h;have h6:p.1<rl.length:=by omega
 have h7:=h5.2.2.2.2.2;rw[Gi,Ep,DT h6]at h7;rw[DT h6];exact congrArg some h7
theorem pB{M:Int->Nat×Nat}:∀{l:List Int},eJ M l≠0↔∀x∈l,(M x).1≠0
 |[]=>⟨fun _ x hx=>(by cases hx),fun _=>Nat.one_ne_zero⟩
 |y::l=>by
  show(M y).1*eJ M l≠0↔_
  rw[Fm,pB];simp
theorem qu{e n:Int}{rl:List Rl}{M:Int->Nat×Nat}(hM:MTab e n rl M)(hr:RlOk rl)(hi:RlIn n rl):∀rs l,InF n l->(fW e rl rs l).isSome=true->eJ M l≠0
 |[],l,hl,h=>by
  rw[fW]at h;cases hf:bN e l with
  |some a=>rw[hf]at h;cases h
  |none=>rw[(ji hM l (fT hf) hl).1];exact Nat.one_ne_zero
 |i::rs,l,hl,h=>by
  rw[fW]at h;cases hf:bN e l with
  |none=>rw[hf]at h;cases h
  |some a =>
   rw[hf]at h;cases hg:rl[i]? with
   |none=>rw[hg]at h;cases h
   |some r =>
    rw[hg]at h;have h1:=fe hf;have h2:=hl _ (p6 h1.1);have hm:r∈rl:=DU hg;by_cases hq:r.frm=l.getD a 0
    ·have h':(fW e rl rs (iy l a r.to)).isSome=true:=by
      have h:(if r.frm=l.getD a 0 then fW e rl rs (iy l a r.to)else none).isSome=true:=h;rw[DZ hq]at h;exact h
     have ih:=qu hM hr hi rs _ (mo hl (hi _ hm)) h';unfold iy at ih;rw[di,di,Fm,Fm]at ih;rw[lA h1.1,di,di,Fm,Fm];refine⟨⟨ih.1.1,?_⟩,ih.2⟩;have e1:eJ M [l.getD a 0]=(M (l.getD a 0)).1:=by show _*1=_;rw[GV]
     rw[e1,uB hM h2.1 h1.2];have ho:okF M r=true:=by
      unfold okF;rw[D7];intro x hx;simpa using pB.1 ih.1.2 x hx
     have hp:=AL (ok:=okF M) (m:=l.getD a 0) (i:=0) hg hq ho;intro hz;have hs:∀q:List (Nat×Rl),(q.map fun p=>eJ M p.2.to).sum=0->∀p∈q,eJ M p.2.to=0:=by
      intro q;induction q with
      |nil=>intro _ p hp;cases hp
      |cons p q ih =>
       intro hz p' hp';rw[EE,E3]at hz;rcases D6.1 hp' with rfl|hp'
       ·omega
       ·exact ih (by omega) p' hp'
     exact ih.1.2 (hs _ hz _ hp)
    ·have h:(if r.frm=l.getD a 0 then fW e rl rs (iy l a r.to)else none).isSome=true:=h
     rw[D5 hq]at h;cases h
theorem I0{e n:Int}{rl:List Rl}{M:Int->Nat×Nat}(hM:MTab e n rl M)(hr:RlOk rl)(hi:RlIn n rl):∀f l,InF n l->wtF e l<f->∀rs p,(rs,p)∈gC e (okF M) rl f l↔fW e rl rs l=some p
 |0,_,_,h,_,_=>by omega
 |f+1,l,hl,hf,rs,p=>by
  rw[gC];cases h:bN e l with
  |none =>
   show(rs,p)∈[([],l.map (·-e))]↔_
   cases rs with
   |nil =>
    rw[fW,h];simp[eq_comm]
   |cons i rs =>
    rw[fW,h];simp
  |some a =>
   have h1:=fe h
   show(rs,p)∈(iN (okF M) (l.getD a 0) rl 0).flatMap _↔_
   rw[Es];cases rs with
   |nil =>
    rw[fW,h];constructor
    ·rintro⟨q,_,hq⟩
     obtain⟨d,_,hd⟩:=Ex.1 hq;cases hd
    ·intro h;cases h
   |cons i rs =>
    rw[fW,h];constructor
    ·rintro⟨q,hq,hd⟩
     obtain⟨d,hd,he⟩:=Ex.1 hd;have h5:=kd hq;have h6:=hr _ h5.1;have h4:=qB h1.1 h1.2 h6.1 (fun x hx=>h5.2.1▸h6.2 x hx)
     have ih:=(I0 hM hr hi f _ (mo hl (hi _ h5.1)) (by omega) d.1 d.2).1 hd
     cases he
     show(match rl[q.1]? with|none=>none|some r=>if r.frm=l.getD a 0 then fW e rl d.1 (iy l a r.to)else none)=some d.2
     rw[for_get hq]
     show(if q.2.frm=l.getD a 0 then _ else _)=_
     rw[DZ h5.2.1,ih]
    ·intro ht
     cases hg:rl[i]? with
     |none=>simp[hg]at ht
     |some r =>
      have hm:r∈rl:=DU hg;by_cases hq:r.frm=l.getD a 0
      ·have ht':fW e rl rs (iy l a r.to)=some p:=by
        rw[hg]at ht;have ht:(if r.frm=l.getD a 0 then fW e rl rs (iy l a r.to)else none)=some p:=ht;rw[DZ hq]at ht;exact ht
       have hI:=mo (a:=a) hl (hi _ hm);have hE:=qu hM hr hi rs _ hI (by rw[ht'];rfl)
       have ho:okF M r=true:=by
        unfold iy at hE;rw[di,di,Fm,Fm]at hE;unfold okF;rw[D7];intro x hx;simpa using pB.1 hE.1.2 x hx
       have hp:=AL (ok:=okF M) (m:=l.getD a 0) (i:=0) hg hq ho;rw[EG]at hp;have h6:=hr _ hm;have h4:=qB h1.1 h1.2 h6.1 (fun x hx=>hq▸h6.2 x hx)
       exact⟨(i,r),hp,Ex.2 ⟨(rs,p),(I0 hM hr hi f _ hI (by omega) rs p).2 ht',rfl⟩⟩
      ·rw[hg]at ht
       have ht:(if r.frm=l.getD a 0 then fW e rl rs (iy l a r.to)else none)=some p:=ht;rw[D5 hq]at ht;cases ht
theorem rU{α:Type}{R:α->α->Prop}(irr:∀a,¬R a a)(tr:∀a b c,R a b->R b c->R a c):∀{l m:List α},l.Pairwise R->m.Pairwise R->(∀x,x∈l↔x∈m)->l=m
 |[],[],_,_,_=>rfl
 |[],y::m,_,_,h=>by cases (h y).2 DV
 |x::l,[],_,_,h=>by cases (h x).1 DV
 |x::l,y::m,hl,hm,h=>by
  rw[FL]at hl hm;have exy:x=y:=by
   rcases D6.1 ((h x).1 DV)with e|h1
   ·exact e
   ·rcases D6.1 ((h y).2 DV)with e|h2
    ·exact e.symm
    ·exact(irr x (tr x y x (hl.1 y h2) (hm.1 x h1))).elim
  subst exy
  congr 1
  refine rU irr tr hl.2 hm.2 fun z=>?_
  constructor
  ·intro hz
   rcases D6.1 ((h z).1 (DW _ hz))with rfl|h1
   ·exact(irr _ (hl.1 _ hz)).elim
   ·exact h1
  ·intro hz
   rcases D6.1 ((h z).2 (DW _ hz))with rfl|h1
   ·exact(irr _ (hm.1 _ hz)).elim
   ·exact h1
def aV:List Int->List Int->Bool
 |[],[]=>false
 |[],_::_=>true
 |_::_,[]=>false
 |x::l,y::m=>if x=y then aV l m else decide (x<y)
theorem cA:∀l,aV l l=false
 |[]=>rfl
 |x::l=>by rw[aV,DZ rfl,cA l]
theorem dv:∀a b c,aV a b=true->aV b c=true->aV a c=true
 |[],[],_,h,_=>by cases h
 |[],_::_,[],_,h=>by cases h
 |[],_::_,_::_,_,_=>rfl
 |_::_,[],_,h,_=>by cases h
 |_::_,_::_,[],_,h=>by cases h
 |x::a,y::b,z::c,h,h'=>by
  rw[aV]at h h' ⊢;by_cases e1:x=y
  ·subst e1
   rw[DZ rfl]at h;by_cases e2:x=z
   ·subst e2
    rw[DZ rfl]at h' ⊢;exact dv a b c h h'
   ·rw[D5 e2]at h' ⊢;exact h'
  ·rw[D5 e1]at h
   have h1:=Eu h;by_cases e2:y=z
   ·subst e2
    rw[D5 e1];exact h
   ·rw[D5 e2]at h'
    have h2:=Eu h';rw[D5 (by omega)]
    exact Ej (by omega)
theorem eG:∀a b,aV a b=false->a≠b->aV b a=true
 |[],[],_,h=>(h rfl).elim
 |[],_::_,h,_=>by cases h
 |_::_,[],_,_=>rfl
 |x::a,y::b,h,hn=>by
  rw[aV]at h ⊢;by_cases e1:x=y
  ·subst e1
   rw[DZ rfl]at h ⊢;exact eG a b h fun e=>hn (by rw[e])
  ·rw[D5 e1]at h
   rw[D5 (fun e=>e1 e.symm)]
   have:=FM h
   exact Ej (by omega)
def xQ(x:List Int):List (List Int)->List (List Int)
 |[]=>[x]
 |y::l=>if aV x y then x::y::l else if x=y then y::l else y::xQ x l
def cg(l:List (List Int)):List (List Int):=l.foldr xQ []
abbrev Rise(l:List (List Int)):Prop:=l.Pairwise fun a b=>aV a b=true
theorem tk(x:List Int):∀(l:List (List Int)) z,z∈xQ x l↔z=x∨z∈l
 |[],z=>by simp[xQ]
 |y::l,z=>by
  rw[xQ];split
  ·simp
  ·split
   ·next h=>subst h;simp
   ·rw[D6,tk x l z,D6]
    constructor
    ·rintro(h|h|h) <;> simp[h]
    ·rintro(h|h|h) <;> simp[h]
theorem uO(x:List Int):∀l:List (List Int),Rise l->Rise (xQ x l)
 |[],_=>IP _ _
 |y::l,h=>by
  have h':=FL.1 h;rw[xQ];split
  ·next hs =>
   refine FL.2 ⟨fun z hz=>?_,h⟩
   rcases D6.1 hz with rfl|hz
   ·exact hs
   ·exact dv _ _ _ hs (h'.1 z hz)
  ·next hs =>
   split
   ·exact h
   ·next hn =>
    refine FL.2 ⟨fun z hz=>?_,uO x l h'.2⟩
    rcases(tk x l z).1 hz with rfl|hz
    ·exact eG _ _ (by simpa using hs) hn
    ·exact h'.1 z hz
theorem dX:∀(l:List (List Int)) z,z∈cg l↔z∈l
 |[],z=>Iff.rfl
 |x::l,z=>by
  show z∈xQ x (cg l)↔_;rw[tk,dX l z,D6]
theorem fG:∀l:List (List Int),Rise (cg l)
 |[]=>List.Pairwise.nil
 |x::l=>uO x _ (fG l)
theorem tR{l m:List (List Int)}(h:Rise m)(hm:∀z,z∈m↔z∈l):m=cg l :=
 rU (fun a h=>by rw[cA]at h;cases h) dv h (fG l) fun x=>by rw[hm,dX]
theorem zH(x:List Int):∀l,(xQ x l).length<=l.length+1
 |[]=>DS _
 |y::l=>by
  rw[xQ];split
  ·simp
  ·split
   ·simp
   ·have:=zH x l;simp only[Ek];omega
theorem m8:∀l,(cg l).length<=l.length
 |[]=>DS _
 |x::l=>by
  have:=zH x (cg l)
  have:=m8 l
  show(xQ x (cg l)).length<=_
  simp only[Ek];omega
theorem rise_of{l:List (List Int)}(h:l.Pairwise fun a b=>aV b a=false)(hn:l.Nodup):Rise l :=
 (h.and hn).imp fun {a b} hh=>eG b a hh.1 fun e=>hh.2 e.symm
def manyM(e:Int)(n:Nat)(rl:List Rl)(x:Int):Nat×Nat:=eo (kF e.toNat n rl) 0 x
theorem ot{α β:Type}{f g:β->α->β}:∀{l:List α} {a:β},(∀b x,x∈l->f b x=g b x)->l.foldl f a=l.foldl g a
 |[],_,_=>rfl
 |x::l,a,h=>by
  rw[EI,EI,h a x DV];exact ot fun b y hy=>h b y (DW _ hy)
theorem many_tab{e:Int}{n:Nat}{rl:List Rl}(he:0<=e)(hn:e<=n)(hr:∀r∈rl,∀x∈r.to,r.frm<x∧x<n):MTab e n rl (manyM e n rl) where
 leaf x h1 h2:=by
  unfold manyM kF;rw[tab_at id id e.toNat n rl x (n-1-x.toNat) (by omega) (by omega),DZ (by omega)]
 node m h0 h1:=by
  have hk:n-1-m.toNat<n:=by omega
  have hm:m.toNat=n-((n-1-m.toNat)+1):=by omega
  have e1:manyM e n rl m=nr id id (n-((n-1-m.toNat)+1)) (fm id id e.toNat n rl (n-1-m.toNat)) rl:=by
   unfold manyM kF;rw[tab_at id id e.toNat n rl m (n-1-m.toNat) hk hm,D5 (by omega)]
  rw[e1];unfold nr;exact ot fun b r hb=>CC e.toNat n rl _ hk r (hr r hb) m h0 hm b
structure PartsOk(e:Int)(sc:List Sn)(rl:List Rl):Prop where
 e1:1<=e
 e6:e<=6
 s1:1<=sc.length
 s8:sc.length<=8
 r1:1<=rl.length
 r10:rl.length<=10
 sn:∀x∈sc,0<=x.part∧x.part<=2∧1<=x.least∧x.least<=240∧x.least<=x.most∧x.most<=240
 rr:∀r∈rl,0<=r.frm∧r.frm<e∧1<=r.to.length∧r.to.length<=4∧∀x∈r.to,r.frm<x∧x<e+sc.length
theorem bm{x a b:Int}:inB x a b=true↔a<=x∧x<=b:=by unfold inB;simp
theorem mB{e:Int}{sc:List Sn}{rl:List Rl}:nM e sc rl=true↔PartsOk e sc rl:=by
 unfold nM snB rlB;simp only[D3,D7,bm];constructor
 ·rintro⟨⟨⟨⟨⟨h1,h2⟩,h3,h4⟩,h5,h6⟩,h7⟩,h8⟩
  exact⟨h1,h2,by omega,by omega,by omega,by omega,fun x hx=>by have:=h7 x hx;omega,
   fun r hr=>by
    have a:=h8 r hr;refine⟨a.1.1.1,by omega,by omega,by omega,fun x hx=>?_⟩
    have:=a.2 x hx
    omega⟩
 ·intro h
  refine⟨⟨⟨⟨⟨h.e1,h.e6⟩,by have:=h.s1;omega,by have:=h.s8;omega⟩,by have:=h.r1;omega,by have:=h.r10;omega⟩,fun x hx=>?_⟩,fun r hr=>?_⟩
  ·have:=h.sn x hx;omega
  ·have:=h.rr r hr
   refine⟨⟨⟨this.1,by omega⟩,by omega,by omega⟩,fun x hx=>?_⟩
   have:=this.2.2.2.2 x hx
   omega
structure StoryOk(e:Int)(sc:List Sn)(rl:List Rl):Prop extends PartsOk e sc rl where
 many:(manyM e (e.toNat+sc.length) rl 0).1<=40
 long:(manyM e (e.toNat+sc.length) rl 0).2<=10
theorem fH{e:Int}{sc:List Sn}{rl:List Rl}:AA e sc rl=true↔StoryOk e sc rl:=by
 unfold AA;rw[D3,mB];have e0:manyM e (e.toNat+sc.length) rl 0=(kF e.toNat (e.toNat+sc.length) rl).getD 0 (0,0):=rfl;constructor
 ·rintro⟨h1,h2⟩
  simp only[D3,Eo]at h2;exact⟨h1,by rw[e0];exact h2.1,by rw[e0];exact h2.2⟩
 ·intro h
  refine⟨h.toPartsOk,?_⟩;simp only[D3,Eo];exact⟨by rw[←e0];exact h.many,by rw[←e0];exact h.long⟩
namespace PartsOk
variable {e:Int} {sc:List Sn} {rl:List Rl} (h:PartsOk e sc rl)
include h
theorem num:((e.toNat+sc.length:Nat):Int)=e+sc.length:=by have:=h.e1;omega
theorem tab:MTab e (e+sc.length) rl (manyM e (e.toNat+sc.length) rl):=by
 have:=many_tab (e:=e) (n:=e.toNat+sc.length) (rl:=rl) (by have:=h.e1;omega) (by have:=h.e1;omega) (fun r hr x hx=>by have:=(h.rr r hr).2.2.2.2 x hx;rw[h.num];exact this)
 rw[h.num]at this;exact this
theorem rlok:RlOk rl:=fun r hr=>⟨(h.rr r hr).2.2.2.1,fun x hx=>((h.rr r hr).2.2.2.2 x hx).1⟩
theorem rlin:RlIn (e+sc.length) rl:=fun r hr x hx=>by
 have h1:=h.rr r hr;have h2:=h1.2.2.2.2 x hx;omega
theorem zero:InF (e+sc.length) [0]:=fun x hx=>by
 rw[Ed.1 hx];have:=h.e1
 omega
end PartsOk
def okR(e:Int)(sc:List Sn)(rl:List Rl):Rl->Bool:=okF (manyM e (e.toNat+sc.length) rl)
def fU(e:Int)(sc:List Sn)(rl:List Rl):List (List Nat×List Int):=gC e (okR e sc rl) rl (wtF e [0]+1) [0]
def aX(e:Int)(sc:List Sn)(rl:List Rl):List (List Int):=cg ((fU e sc rl).map (·.2))
theorem gf{e:Int}{sc:List Sn}{rl:List Rl}(h:StoryOk e sc rl):(fU e sc rl).length<=40:=by
 unfold fU okR;rw[tl h.tab h.rlok h.rlin _ [0] h.zero (FG _)]
 show(manyM e (e.toNat+sc.length) rl 0).1*1<=40
 have:=h.many
 omega
theorem fO{e:Int}{sc:List Sn}{rl:List Rl}(h:StoryOk e sc rl):∀d∈fU e sc rl,d.2.length<=10∧∀x∈d.2,0<=x∧x<sc.length:=by
 intro d hd;have:=uL h.tab h.rlin _ [0] h.zero d hd
 have e1:ng (manyM e (e.toNat+sc.length) rl) [0]=(manyM e (e.toNat+sc.length) rl 0).2:=Fz _;refine⟨by have:=h.long;omega,fun x hx=>?_⟩
 have:=this.2 x hx
 omega
theorem yj{e:Int}{sc:List Sn}{rl:List Rl}(h:StoryOk e sc rl)(rs:List Nat)(p:List Int):(rs,p)∈fU e sc rl↔fW e rl rs [0]=some p :=
 I0 h.tab h.rlok h.rlin _ [0] h.zero (FG _) rs p
theorem co{e:Int}{sc:List Sn}{rl:List Rl}(h:StoryOk e sc rl):(aX e sc rl).length<=40:=by
 have h1:=m8 ((fU e sc rl).map (·.2))
 have h2:=gf h;rw[DX]at h1;exact Em h1 h2
end Go.Pv
namespace Go.Pv
def lvM(e:Int)(x:Int):Nat:=(min x e).toNat
def lvF(e:Int)(l:List Int):Nat:=(l.map (lvM e)).sum
theorem H5(e:Int)(l m:List Int):lvF e (l++m)=lvF e l+lvF e m:=by unfold lvF;rw[Ec,IT]
theorem Iv(e:Int):∀l:List Int,(∀x∈l,e<=x)->lvF e l=e.toNat*l.length
 |[],_=>rfl
 |x::l,h=>by
  have h1:=h x DV;show lvM e x+lvF e l=_;rw[Iv e l fun y hy=>h y (DW _ hy),Ek,Nat.mul_succ]
  unfold lvM;omega
theorem lv_to{e m:Int}(h0:0<=m)(hm:m<e):∀to:List Int,(∀x∈to,m<x)->(m.toNat+1)*to.length<=lvF e to
 |[],_=>Ee _
 |x::to,h=>by
  have h1:=h x DV;have h2:=lv_to h0 hm to fun y hy=>h y (DW _ hy)
  show _<=lvM e x+lvF e to;rw[Ek,Nat.mul_succ];unfold lvM;omega
theorem ID{e n:Int}{rl:List Rl}(hr:∀r∈rl,1<=r.to.length∧∀x∈r.to,r.frm<x)(hi:RlIn n rl):∀(rs:List Nat) (l p:List Int),InF n l->fW e rl rs l=some p->rs.length+lvF e l<=e.toNat*p.length
 |[],l,p,hl,h=>by
  rw[fW]at h;cases hf:bN e l with
  |some a=>rw[hf]at h;cases h
  |none =>
   rw[hf]at h;cases h;rw[Iv e l (fT hf)];simp
 |i::rs,l,p,hl,h=>by
  rw[fW]at h;cases hf:bN e l with
  |none=>rw[hf]at h;cases h
  |some a =>
   rw[hf]at h;cases hg:rl[i]? with
   |none=>rw[hg]at h;cases h
   |some r =>
    rw[hg]at h;have h:(if r.frm=l.getD a 0 then fW e rl rs (iy l a r.to)else none)=some p:=h;by_cases hq:r.frm=l.getD a 0
    ·rw[DZ hq]at h
     have h1:=fe hf;have h2:=hl _ (p6 h1.1);have hm:r∈rl:=DU hg;have ih:=ID hr hi rs _ p (mo hl (hi _ hm)) h;have h3:=lv_to h2.1 h1.2 r.to fun x hx=>hq▸(hr r hm).2 x hx
     have e1:lvF e l=lvF e (l.take a)+lvM e (l.getD a 0)+lvF e (l.drop (a+1)):=by
      conv=>lhs;rw[lA h1.1,H5,H5]
      unfold lvF;simp
     have e2:lvM e (l.getD a 0)=(l.getD a 0).toNat:=by unfold lvM;omega
     have e3:(l.getD a 0).toNat+1<=((l.getD a 0).toNat+1)*r.to.length:=Nat.le_mul_of_pos_right _ (hr r hm).1;unfold iy at ih;rw[H5,H5]at ih;rw[Ek];omega
    ·rw[D5 hq]at h;cases h
theorem G8{e:Int}{sc:List Sn}{rl:List Rl}(h:StoryOk e sc rl):∀d∈fU e sc rl,d.1.length<=60∧∀i∈d.1,i<rl.length:=by
 intro d hd;have h1:=(yj h d.1 d.2).1 hd;have h2:=ID (n:=e+sc.length) (fun r hr=>⟨(h.rr r hr).2.2.1,fun x hx=>((h.rr r hr).2.2.2.2 x hx).1⟩) h.rlin d.1 [0] d.2 h.zero h1
 have h3:=(fO h d hd).1;have h4:e.toNat*d.2.length<=6*10:=Nat.mul_le_mul (by have:=h.e6;omega) h3
 refine⟨by omega,?_⟩
 have key:∀(rs:List Nat) (l p:List Int),fW e rl rs l=some p->∀i∈rs,i<rl.length:=by
  intro rs;induction rs with
  |nil=>intro l p _ i hi;cases hi
  |cons j rs ih =>
   intro l p ht i hi;rw[fW]at ht;cases hf:bN e l with
   |none=>rw[hf]at ht;cases ht
   |some a =>
    rw[hf]at ht;cases hg:rl[j]? with
    |none=>rw[hg]at ht;cases ht
    |some r =>
     rw[hg]at ht;have ht:(if r.frm=l.getD a 0 then fW e rl rs (iy l a r.to)else none)=some p:=ht;by_cases hq:r.frm=l.getD a 0
     ·rw[DZ hq]at ht
      rcases D6.1 hi with rfl|hi
      ·exact(DR.1 hg).1
      ·exact ih _ p ht i hi
     ·rw[D5 hq]at ht;cases ht
 exact key d.1 [0] d.2 h1
def bH(l:List Nat):List Int:=l.map Int.ofNat
def ofB(ds:List (List Nat×List Int))(p:List Int):List (List Nat×List Int):=ds.filter fun d=>decide (d.2=p)
def dG(last:Option (List Int))(x:List Int):Bool:=match last with
 |none=>true
 |some y=>aV y x
def eW(last:Option (List Int))(b:Option (List Int))(x:List Int):Option (List Int) :=
 if dG last x&&(match b with|none=>true|some y=>aV x y)then some x else b
def AN(last:Option (List Int))(all:List (List Int)):Option (List Int):=all.foldl (eW last) none
def sN(last:Option (List Int))(seen:List (List Int)):Option (List Int)->Prop
 |none=>∀x∈seen,dG last x=false
 |some y=>y∈seen∧dG last y=true∧∀x∈seen,dG last x=true->aV x y=false
theorem yZ{last:Option (List Int)}{seen:List (List Int)}{b:Option (List Int)}(h:sN last seen b)(x:List Int):sN last (seen++[x]) (eW last b x):=by
 unfold eW;cases hx:dG last x with
 |false =>
  cases b with
  |none =>
   intro z hz;rcases Ez.1 hz with hz|hz
   ·exact h z hz
   ·rw[Ed.1 hz];exact hx
  |some y =>
   refine⟨EY _ h.1,h.2.1,fun z hz hb=>?_⟩
   rcases Ez.1 hz with hz|hz
   ·exact h.2.2 z hz hb
   ·rw[Ed.1 hz,hx]at hb;cases hb
 |true =>
  cases b with
  |none =>
   refine⟨by simp,hx,fun z hz hb=>?_⟩
   rcases Ez.1 hz with hz|hz
   ·have:=h z hz;rw[this]at hb;cases hb
   ·rw[Ed.1 hz];exact cA x
  |some y =>
   cases hs:aV x y with
   |true =>
    show sN last (seen++[x]) (if(true&&aV x y)=true then some x else some y);rw[hs]
    change x∈seen++[x]∧dG last x=true∧∀z∈seen++[x],dG last z=true->aV z x=false
    refine⟨by simp,hx,fun z hz hb=>?_⟩
    rcases Ez.1 hz with hz|hz
    ·have h1:=h.2.2 z hz hb
     cases h2:aV z x with
     |false=>rfl
     |true=>have:=dv _ _ _ h2 hs;rw[h1]at this;cases this
    ·rw[Ed.1 hz];exact cA x
   |false =>
    show sN last (seen++[x]) (if(true&&aV x y)=true then some x else some y);rw[hs]
    change y∈seen++[x]∧dG last y=true∧∀z∈seen++[x],dG last z=true->aV z y=false
    refine⟨EY _ h.1,h.2.1,fun z hz hb=>?_⟩
    rcases Ez.1 hz with hz|hz
    ·exact h.2.2 z hz hb
    ·rw[Ed.1 hz];exact hs
theorem ru{last:Option (List Int)}:∀(all seen:List (List Int)) (b:Option (List Int)),sN last seen b->sN last (seen++all) (all.foldl (eW last) b)
 |[],seen,b,h=>by rw[Er];exact h
 |x::all,seen,b,h=>by
  have:=ru all (seen++[x]) _ (yZ h x)
  rw[Et]at this;exact this
theorem zQ(last:Option (List Int))(all:List (List Int)):sN last all (AN last all):=by
 have:=ru (last:=last) all [] none (fun x hx=>by cases hx)
 exact this
theorem xr(all:List (List Int))(k:Nat):AN ((cg all).take k).getLast? all=if k<=(cg all).length then(cg all)[k]? else AN (cg all).getLast? all:=by
 split
 ·next hk =>
  have hq:=zQ ((cg all).take k).getLast? all;have hr:=fG all;have hm:=dX all;generalize cg all=l at *;have hbeh:∀j (hj:j<l.length),dG (l.take k).getLast? l[j]=decide (k<=j):=by
   intro j hj;rcases FH k with rfl|hk0
   ·simp[dG]
   ·have e1:(l.take k).getLast?=some l[k-1]:=by
     rw[Gn,En,F4 hk,Gu (by omega),DT]
    rw[e1];show aV l[k-1] l[j]=_;by_cases hkj:k<=j
    ·rw[Ej hkj]
     exact FQ.1 hr (k-1) j (by omega) hj (by omega)
    ·rw[Ei hkj]
     rcases Nat.lt_or_ge j (k-1)with h1|h1
     ·have h2:=FQ.1 hr j (k-1) hj (by omega) h1
      cases h3:aV l[k-1] l[j]with
      |false=>rfl
      |true=>have:=dv _ _ _ h2 h3;rw[cA]at this;cases this
     ·have:j=k-1:=by omega
      subst this;exact cA _
  cases hn:AN (l.take k).getLast? all with
  |none =>
   rw[hn]at hq;rcases Nat.lt_or_ge k l.length with h1|h1
   ·have h2:=hq l[k] ((hm _).1 (E5 h1))
    rw[hbeh k h1,Ej (DS k)]at h2;cases h2
   ·rw[F5 h1]
  |some y =>
   rw[hn]at hq;obtain⟨h1,h2,h3⟩:=hq;obtain⟨j,hj,rfl⟩:=EX ((hm _).2 h1);rw[hbeh j hj]at h2;have hkj:=Eu h2;have h4:=h3 l[k] ((hm _).1 (E5 (by omega))) (by rw[hbeh k (by omega)];exact Ej (DS k))
   rcases Nat.lt_or_ge k j with h5|h5
   ·have:=FQ.1 hr k j (by omega) hj h5
    rw[h4]at this;cases this
   ·have:j=k:=by omega
    subst this;rw[DT]
 ·next hk=>rw[EQ (by omega)]
theorem AU{l:List Int}{a:Nat}{to:List Int}(ha:a<l.length)(ht:1<=to.length):l.length<=(iy l a to).length:=by
 unfold iy;simp only[Ea,En,GH];omega
theorem ur{e:Int}{rl:List Rl}(hr:∀r∈rl,1<=r.to.length):∀(ns:List Nat) (l:List Int) {p:List Int},fW e rl ns l=some p->l.length<=p.length
 |[],l,p,h=>by
  unfold fW at h;split at h
  ·cases h;simp
  ·cases h
 |i::ns,l,p,h=>by
  unfold fW at h;split at h
  ·cases h
  ·next a ha =>
   split at h
   ·cases h
   ·next r hri =>
    split at h
    ·have h1:=ur hr ns _ h
     have h2:=AU (to:=r.to) (fe ha).1 (hr r (DU hri));omega
    ·cases h
theorem vD{l:List (List Int)}(h:Rise l):l.Nodup:=h.imp fun {a b} hab e=>by
 subst e;rw[cA]at hab;cases hab
namespace StoryOk
variable {e:Int} {sc:List Sn} {rl:List Rl} (h:StoryOk e sc rl)
include h
theorem to1:∀r∈rl,1<=r.to.length:=fun r hr=>(h.rr r hr).2.2.1
theorem play_ne:∀d∈fU e sc rl,1<=d.2.length:=fun d hd=>by
 have:=ur h.to1 d.1 [0] ((yj h d.1 d.2).1 hd)
 simpa using this
theorem play_in{p:List Int}:p∈aX e sc rl↔∃d∈fU e sc rl,d.2=p:=by
 unfold aX;rw[dX,Ex]
theorem plays_fine:∀p∈aX e sc rl,1<=p.length∧p.length<=10∧∀x∈p,0<=x∧x<sc.length:=fun p hp=>by
 obtain⟨d,hd,rfl⟩:=h.play_in.1 hp;exact⟨h.play_ne d hd,fO h d hd⟩
end StoryOk
end Go.Pv
namespace Go.Pv
def k9(ps:List (List Int))(n:Int):Nat:=(ps.filter fun p=>decide (n∈p)).length
def rK(ps:List (List Int))(n:Int):Int:=if k9 ps n=0 then 1 else if k9 ps n=ps.length then 3 else 2
def bV(k:Nat)(ps:List (List Int)):List Int:=(List.range k).map fun (n:Nat)=>rK ps (n:Int)
theorem ig(k:Nat)(ps:List (List Int)):(bV k ps).length=k:=by simp[bV]
structure Nt where
 b:Int
 w0:Int×Int
 w1:Int×Int
 w2:Int×Int
def fD(w:Int×Int):Bool:=inB w.1 0 900&&inB w.2 w.1 900&&decide (w.2-w.1<=30)
def evB(n:Nt):Bool:=inB n.b 0 900&&fD n.w0&&fD n.w1&&fD n.w2
def kK:Int->List Sn->Bool
 |_,[]=>true
 |p,x::l=>inB x.part p 2&&inB x.least 1 240&&inB x.most x.least 240&&kK x.part l
def bI(l:List Sn):Nat:=(l.filter (·.loose)).length
def du(n:Nt)(l:List Sn):Bool:=evB n&&inB l.length 1 10&&kK 0 l&&decide (bI l<=6)
def c7(n:Nat):Nat->Nat->List (List Nat)
 |0,_=>[[]]
 |k+1,i=>(List.range' i (n-i)).flatMap fun j=>(c7 n k (j+1)).map (j::·)
def chB:List Sn->Nat->List Nat->Bool
 |[],_,_=>true
 |x::l,i,c=>(x.loose||decide (i∈c))&&chB l (i+1) c
def nO(l:List Sn):List (List Nat):=((List.range (l.length+1)).reverse).flatMap fun k=>(c7 l.length k 0).filter (chB l 0)
theorem uX{n:Nat}:∀k i,n-i<k->c7 n k i=[]
 |0,_,h=>by omega
 |k+1,i,h=>by
  rw[c7,List.flatMap_eq_nil_iff];intro j hj;have hj:=List.mem_range'_1.1 hj;rw[uX k (j+1) (by omega)]
  rfl
theorem pj{n:Nat}:∀{k i:Nat} {c:List Nat},c∈c7 n k i->c.length=k∧c.Pairwise (·<·)∧∀x∈c,i<=x∧x<n
 |0,i,c,h=>by
  rw[c7,Ed]at h;subst h;exact⟨rfl,List.Pairwise.nil,fun x hx=>by cases hx⟩
 |k+1,i,c,h=>by
  rw[c7]at h;obtain⟨j,hj,hc⟩:=Es.1 h;obtain⟨d,hd,rfl⟩:=Ex.1 hc;have hj:=List.mem_range'_1.1 hj;obtain⟨h1,h2,h3⟩:=pj hd;refine⟨by rw[Ek,h1],FL.2 ⟨fun x hx=>by have:=h3 x hx;omega,h2⟩,fun x hx=>?_⟩
  rcases D6.1 hx with rfl|hx
  ·omega
  ·have:=h3 x hx;omega
theorem uz{n:Nat}:∀{c:List Nat} {i:Nat},c.Pairwise (·<·)->(∀x∈c,i<=x∧x<n)->c∈c7 n c.length i
 |[],i,_,_=>by rw[ET,c7];exact Ed.2 rfl
 |j::d,i,h,hb=>by
  rw[Ek,c7];have hp:=FL.1 h;have hj:=hb j DV;refine Es.2 ⟨j,List.mem_range'_1.2 (by omega),Ex.2 ⟨d,uz (i:=j+1) hp.2 fun x hx=>?_,rfl⟩⟩
  have h1:=hp.1 x hx;have h2:=hb x (DW _ hx);omega
structure IsCho(l:List Sn)(c:List Nat):Prop where
 rise:c.Pairwise (·<·)
 lt:∀x∈c,x<l.length
 all:chB l 0 c=true
theorem jG{n:Nat}:∀{c:List Nat} {i:Nat},c.Pairwise (·<·)->(∀x∈c,i<=x∧x<n)->c.length<=n-i
 |[],_,_,_=>Ee _
 |j::d,i,h,hb=>by
  have hp:=FL.1 h;have hj:=hb j DV;have hb2:∀x∈d,j+1<=x∧x<n:=fun x hx=>by
   have h1:=hp.1 x hx;have h2:=hb x (DW _ hx);omega
  have:=jG hp.2 hb2
  rw[Ek];omega
theorem tO{l:List Sn}{c:List Nat}:c∈nO l↔IsCho l c:=by
 unfold nO;rw[Es];constructor
 ·rintro⟨k,_,h⟩
  obtain⟨h1,h2⟩:=Gd.1 h;obtain⟨_,h4,h5⟩:=pj h1;exact⟨h4,fun x hx=>(h5 x hx).2,h2⟩
 ·intro h
  have h1:=jG (n:=l.length) (i:=0) h.rise fun x hx=>⟨Ee _,h.lt x hx⟩
  exact⟨c.length,List.mem_reverse.2 (FJ.2 (by omega)),Gd.2 ⟨uz h.rise fun x hx=>⟨Ee _,h.lt x hx⟩,h.all⟩⟩
def ofP(l:List Sn)(c:List Nat)(k:Int):List Nat:=c.filter fun n=>match l[n]? with
 |some x=>decide (x.part=k)
 |none=>false
def fV(f:Sn->Int)(l:List Sn)(n:Nat):Int:=match l[n]? with
 |some x=>f x
 |none=>0
def gu(f:Sn->Int)(l:List Sn)(c:List Nat):Int:=(c.map (fV f l)).sum
def loP(l:List Sn)(c:List Nat)(k:Int):Int:=gu (·.least) l (ofP l c k)
def hiP(l:List Sn)(c:List Nat)(k:Int):Int:=gu (·.most) l (ofP l c k)
def FitL(l:List Sn):Prop:=∀x∈l,0<=x.least∧x.least<=x.most
theorem sum_le{l:List Sn}(h:FitL l):∀c:List Nat,0<=gu (·.least) l c∧gu (·.least) l c<=gu (·.most) l c
 |[]=>⟨EN _,EN _⟩
 |n::c=>by
  have ih:=sum_le h c;have h1:gu (·.least) l (n::c)=fV (·.least) l n+gu (·.least) l c:=by unfold gu;rw[EE,E3]
  have h2:gu (·.most) l (n::c)=fV (·.most) l n+gu (·.most) l c:=by unfold gu;rw[EE,E3]
  have h3:0<=fV (·.least) l n∧fV (·.least) l n<=fV (·.most) l n:=by
   unfold fV;cases hn:l[n]? with
   |none=>exact⟨EN _,EN _⟩
   |some x=>exact h x (DU hn)
  omega
theorem wx{l:List Sn}(h:FitL l)(c:List Nat)(k:Int):loP l c k<=hiP l c k:=(sum_le h _).2
def dg(o:Int×Int)(a h:Int)(w:Int×Int):Option (Int×Int) :=
 if o.2+h<w.1 then none else if w.2<o.1+a then none else some (max (o.1+a) w.1,min (o.2+h) w.2)
theorem kb{o:Int×Int}{a h:Int}{w:Int×Int}(ho:o.1<=o.2)(ha:a<=h)(hw:w.1<=w.2)(z:Int):
 (match dg o a h w with|none=>False|some p=>p.1<=p.2∧p.1<=z∧z<=p.2)↔(w.1<=z∧z<=w.2∧∃t,o.1<=t∧t<=o.2∧a<=z-t∧z-t<=h):=by
 unfold dg;by_cases h1:o.2+h<w.1
 ·rw[DZ h1]
  show False↔_;refine⟨fun k=>k.elim,?_⟩
  rintro⟨k1,k2,t,k3⟩
  omega
 ·rw[D5 h1]
  by_cases h2:w.2<o.1+a
  ·rw[DZ h2]
   show False↔_;refine⟨fun k=>k.elim,?_⟩
   rintro⟨k1,k2,t,k3⟩
   omega
  ·rw[D5 h2]
   show(max (o.1+a) w.1<=min (o.2+h) w.2∧max (o.1+a) w.1<=z∧z<=min (o.2+h) w.2)↔_
   constructor
   ·rintro⟨k1,k2,k3⟩
    exact⟨by omega,by omega,max o.1 (z-h),by omega⟩
   ·rintro⟨k1,k2,t,k3⟩
    omega
theorem pR{o p:Int×Int}{a h:Int}{w:Int×Int}(ho:o.1<=o.2)(ha:a<=h)(hw:w.1<=w.2)(e:dg o a h w=some p):p.1<=p.2:=by
 unfold dg at e;split at e
 ·cases e
 ·split at e
  ·cases e
  ·cases e
   show max _ _<=min _ _;omega
def fwdB(n:Nt)(l:List Sn)(c:List Nat):Option ((Int×Int)×(Int×Int)×(Int×Int)) :=
 match dg (n.b,n.b) (loP l c 0) (hiP l c 0) n.w0 with
 |none=>none
 |some o1=>match dg o1 (loP l c 1) (hiP l c 1) n.w1 with
  |none=>none
  |some o2=>match dg o2 (loP l c 2) (hiP l c 2) n.w2 with
   |none=>none
   |some o3=>some (o1,o2,o3)
def lE(n:Nt)(l:List Sn)(c:List Nat):Bool:=(fwdB n l c).isSome
def Hours(n:Nt)(l:List Sn)(c:List Nat)(x y z:Int):Prop :=
 (n.w0.1<=x∧x<=n.w0.2)∧(n.w1.1<=y∧y<=n.w1.2)∧(n.w2.1<=z∧z<=n.w2.2)∧(loP l c 0<=x-n.b∧x-n.b<=hiP l c 0)∧(loP l c 1<=y-x∧y-x<=hiP l c 1)∧(loP l c 2<=z-y∧z-y<=hiP l c 2)
structure WinOk(n:Nt):Prop where
 k0:n.w0.1<=n.w0.2
 k1:n.w1.1<=n.w1.2
 k2:n.w2.1<=n.w2.2
theorem can_iff{n:Nt}{l:List Sn}(hn:WinOk n)(hl:FitL l)(c:List Nat):lE n l c=true↔∃x y z,Hours n l c x y z:=by
 unfold lE fwdB Hours;have s0:=fun z=>kb (o:=(n.b,n.b)) (z:=z) (EN _) (wx hl c 0) hn.k0
 have e0:=fun p=>pR (o:=(n.b,n.b)) (p:=p) (EN _) (wx hl c 0) hn.k0
 cases h0:dg (n.b,n.b) (loP l c 0) (hiP l c 0) n.w0 with
 |none =>
  rw[h0]at s0;simp only[FN,E8,false_iff]
  rintro⟨x,y,z,h1,_,_,h4,_⟩
  exact(s0 x).2 ⟨h1.1,h1.2,n.b,EN _,EN _,h4.1,h4.2⟩
 |some o1 =>
  rw[h0]at s0;have k0:=e0 o1 h0;dsimp only at s0 ⊢;have s1:=fun z=>kb (o:=o1) (z:=z) k0 (wx hl c 1) hn.k1
  have e1:=fun p=>pR (o:=o1) (p:=p) k0 (wx hl c 1) hn.k1
  cases h1:dg o1 (loP l c 1) (hiP l c 1) n.w1 with
  |none =>
   rw[h1]at s1;simp only[FN,E8,false_iff]
   rintro⟨x,y,z,a1,a2,_,a4,a5,_⟩
   have b1:=(s0 x).2 ⟨a1.1,a1.2,n.b,EN _,EN _,a4.1,a4.2⟩;exact(s1 y).2 ⟨a2.1,a2.2,x,b1.2.1,b1.2.2,a5.1,a5.2⟩
  |some o2 =>
   rw[h1]at s1;have k1:=e1 o2 h1;dsimp only at s1 ⊢;have s2:=fun z=>kb (o:=o2) (z:=z) k1 (wx hl c 2) hn.k2
   have e2:=fun p=>pR (o:=o2) (p:=p) k1 (wx hl c 2) hn.k2
   cases h2:dg o2 (loP l c 2) (hiP l c 2) n.w2 with
   |none =>
    rw[h2]at s2;simp only[FN,E8,false_iff]
    rintro⟨x,y,z,a1,a2,a3,a4,a5,a6⟩
    have b1:=(s0 x).2 ⟨a1.1,a1.2,n.b,EN _,EN _,a4.1,a4.2⟩;have b2:=(s1 y).2 ⟨a2.1,a2.2,x,b1.2.1,b1.2.2,a5.1,a5.2⟩;exact(s2 z).2 ⟨a3.1,a3.2,y,b2.2.1,b2.2.2,a6.1,a6.2⟩
   |some o3 =>
    rw[h2]at s2;have k2:=e2 o3 h2;dsimp only at s2 ⊢;simp only[Option.isSome_some,true_iff];obtain⟨c1,c2,y,c3,c4,c5,c6⟩:=(s2 o3.1).1 ⟨k2,EN _,k2⟩;obtain⟨d1,d2,x,d3,d4,d5,d6⟩:=(s1 y).1 ⟨k1,c3,c4⟩;obtain⟨f1,f2,t,f3,f4,f5,f6⟩:=(s0 x).1 ⟨k0,d3,d4⟩;have f3:n.b<=t:=f3;have f4:t<=n.b:=f4;have:t=n.b:=by omega
    subst this;exact⟨x,y,o3.1,⟨f1,f2⟩,⟨d1,d2⟩,⟨c1,c2⟩,⟨f5,f6⟩,⟨d5,d6⟩,⟨c5,c6⟩⟩
def qf(n:Nt)(l:List Sn):List (List Nat):=(nO l).filter (lE n l)
def iL(n:Nt)(l:List Sn):Bool:=decide (qf n l≠[])
def qe(w:Int×Int):List Int:=(List.range (w.2-w.1+1).toNat).map fun (i:Nat)=>w.1+i
theorem iJ{w:Int×Int}{x:Int}:x∈qe w↔w.1<=x∧x<=w.2:=by
 unfold qe;rw[Ex];constructor
 ·rintro⟨i,hi,rfl⟩
  have:=FJ.1 hi
  omega
 ·intro h
  exact⟨(x-w.1).toNat,FJ.2 (by omega),by omega⟩
def cR(n:Nt)(l:List Sn)(c:List Nat):List (Int×Int×Int):=(qe n.w0).flatMap fun x=>(if inB (x-n.b) (loP l c 0) (hiP l c 0)=true then qe n.w1 else[]).flatMap fun y=>(if inB (y-x) (loP l c 1) (hiP l c 1)=true then qe n.w2 else[]).filterMap fun z=>if inB (z-y) (loP l c 2) (hiP l c 2)=true then some (x,y,z)else none
theorem hours_ne{n:Nt}{l:List Sn}{c:List Nat}:cR n l c≠[]↔∃x y z,Hours n l c x y z:=by
 constructor
 ·intro h
  obtain⟨⟨x,y,z⟩,hm⟩:=JY _ h;obtain⟨x',hx,hm⟩:=Es.1 hm;obtain⟨y',hy,hm⟩:=Es.1 hm;obtain⟨z',hz,hm⟩:=GY.1 hm;split at hm <;> cases hm
  rename_i h2;split at hy
  case isFalse=>cases hy
  rename_i h0;split at hz
  case isFalse=>cases hz
  rename_i h1;exact⟨x,y,z,iJ.1 hx,iJ.1 hy,iJ.1 hz,bm.1 h0,bm.1 h1,bm.1 h2⟩
 ·rintro⟨x,y,z,h1,h2,h3,h4,h5,h6⟩ e
  have:(x,y,z)∈cR n l c:=by
   refine Es.2 ⟨x,iJ.2 h1,Es.2 ⟨y,?_,GY.2 ⟨z,?_,?_⟩⟩⟩
   ·rw[DZ (bm.2 h4)];exact iJ.2 h2
   ·rw[DZ (bm.2 h5)];exact iJ.2 h3
   ·rw[DZ (bm.2 h6)]
  rw[e]at this;cases this
theorem zJ{n:Nt}{l:List Sn}(hn:WinOk n)(hl:FitL l)(c:List Nat):lE n l c=decide (cR n l c≠[]):=by
 rw[FD,Eo,hours_ne,can_iff hn hl]
def kQ(l:List Sn)(n:Nat)(k:Int):List Sn:=match l[n]? with
 |some x=>l.set n { x with least:=k,most:=k }
 |none=>l
theorem fix_len(l:List Sn)(n:Nat)(k:Int):(kQ l n k).length=l.length:=by
 unfold kQ;split
 ·rw[Fr]
 ·rfl
def j7(n:Nt)(l:List Sn)(c:List Nat)(i:Nat):Nat->Int->Int
 |0,k=>k
 |m+1,k=>if lE n (kQ l i k) c=true then k else j7 n l c i m (k+1)
def Bf(n:Nt)(l:List Sn)(c:List Nat)(i:Nat):Int:=j7 n l c i (fV (·.most) l i-fV (·.least) l i).toNat (fV (·.least) l i)
def re(n:Nt)(c:List Nat):List Sn->List Nat->List Int
 |_,[]=>[]
 |l,i::r=>Bf n l c i::re n c (kQ l i (Bf n l c i)) r
def Nt.at(n:Nt)(b:Int):Nt:={ n with b:=b }
def scn(sc:List Sn)(p:List Int):List Sn:=p.filterMap fun x=>sc[x.toNat]?
def dT:List Sn->Nat->List Int->Bool
 |[],_,_=>true
 |x::l,i,p=>(!x.formula||decide ((i:Int)∈p))&&dT l (i+1) p
def kZ:Int->List Sn->Bool
 |_,[]=>true
 |p,x::l=>decide (p<=x.part)&&kZ x.part l
def un(l:List Sn):Bool:=kZ 0 l&&decide (bI l<=6)
def cX(n:Nt)(sc:List Sn)(p:List Int):Int :=
 if dT sc 0 p=false then 1 else if un (scn sc p)=false then 2 else if iL n (scn sc p)=false then 3 else 4
def ScOk(sc:List Sn):Prop:=∀x∈sc,0<=x.part∧x.part<=2∧1<=x.least∧x.least<=240∧x.least<=x.most∧x.most<=240
theorem scn_mem{sc:List Sn}{p:List Int}:∀x∈scn sc p,x∈sc:=fun x hx=>by
 obtain⟨y,_,h⟩:=GY.1 hx;exact DU h
theorem ko{sc:List Sn}{p:List Int}(h:∀x∈p,0<=x∧x<sc.length):(scn sc p).length=p.length:=by
 unfold scn;induction p with
 |nil=>rfl
 |cons a p ih =>
  have h1:=h a DV;have h2:sc[a.toNat]?=some sc[a.toNat]:=DT (by omega)
  rw[F0,h2];simp only[Ek];rw[ih fun x hx=>h x (DW _ hx)]
theorem ze{sc:List Sn}:∀{p:List Int} {i:Nat} {x:Int} {y:Sn},(∀x∈p,0<=x∧x<sc.length)->p[i]?=some x->sc[x.toNat]?=some y->(scn sc p)[i]?=some y
 |[],i,x,y,_,h,_=>by simp at h
 |a::p,0,x,y,_,h,k=>by
  simp only[Fu,Option.some.injEq]at h;subst h;unfold scn;rw[F0,k];rfl
 |a::p,i+1,x,y,hp,h,k=>by
  have h1:=hp a DV;have h2:sc[a.toNat]?=some sc[a.toNat]:=DT (by omega)
  have ih:=ze (p:=p) (i:=i) (fun x hx=>hp x (DW _ hx)) (by simpa using h) k
  unfold scn at ih ⊢;rw[F0,h2];simpa using ih
theorem tX{sc:List Sn}{p:List Int}{i:Nat}{x:Int}{y:Sn}(h:p[i]?=some x)(k:sc[x.toNat]?=some y):scn sc (p.take (i+1))=scn sc (p.take i)++[y]:=by
 unfold scn;rw[Ev,h,Gf]
 congr 1
 simp[k]
theorem scn_ok{sc:List Sn}(h:ScOk sc)(p:List Int):ScOk (scn sc p):=fun x hx=>h x (scn_mem x hx)
theorem uZ:∀{l:List Sn} {p:Int},ScOk l->0<=p->kK p l=kZ p l
 |[],_,_,_=>rfl
 |x::l,p,h,hp=>by
  have h1:=h x DV;rw[kK,kZ,uZ (fun y hy=>h y (DW _ hy)) h1.1]
  have e2:inB x.least 1 240=true:=bm.2 (by omega)
  have e3:inB x.most x.least 240=true:=bm.2 (by omega)
  rw[e2,e3,Fi,Fi]
  congr 1
  unfold inB;rw[Ej h1.2.1,Fi]
theorem plan_ord{n:Nt}{l:List Sn}(he:evB n=true)(h:ScOk l)(h1:1<=l.length)(h2:l.length<=10):du n l=un l:=by
 unfold du un;rw[he,bm.2 (show(1:Int)<=l.length∧(l.length:Int)<=10 by omega),uZ h (EN _)]
 rfl
theorem Br{n:Nt}{sc:List Sn}{p:List Int}:cX n sc p=4↔dT sc 0 p=true∧un (scn sc p)=true∧iL n (scn sc p)=true:=by
 unfold cX;cases dT sc 0 p <;> cases un (scn sc p) <;> cases iL n (scn sc p) <;> decide
def jf(n:Nt)(sc:List Sn)(ps:List (List Int)):List (List Int):=ps.filter fun p=>decide (cX n sc p=4)
theorem Aa{n:Nt}{sc:List Sn}{ps:List (List Int)}{p:List Int}:p∈jf n sc ps↔p∈ps∧cX n sc p=4:=by
 unfold jf;rw[Gd,Eo]
def HB(k:Nat)(rs:List Nat):List Nat:=(List.range k).filter fun i=>decide (i∈rs)
theorem Hd{k:Nat}{rs:List Nat}(h:∀i∈rs,i<k){i:Nat}:i∈HB k rs↔i∈rs:=by
 unfold HB;rw[Gd,FJ,Eo];exact⟨fun k=>k.2,fun k=>⟨h i k,k⟩⟩
theorem He(k:Nat)(rs:List Nat):(HB k rs).Pairwise (·<·):=List.Pairwise.filter _ Jw
theorem setR_lt{k:Nat}{rs:List Nat}:∀i∈HB k rs,i<k:=fun i hi=>FJ.1 (Gd.1 hi).1
def Ia(a b:List Nat):Bool:=aV (bH a) (bH b)
def Hg(a b:List Nat):Bool:=decide (a.length<b.length)||(decide (a.length=b.length)&&Ia a b)
theorem HN:∀{a b:List Nat},bH a=bH b->a=b
 |[],[],_=>rfl
 |[],_::_,h=>by cases h
 |_::_,[],h=>by cases h
 |x::a,y::b,h=>by
  have h':(x:Int)::bH a=(y:Int)::bH b:=h;injection h' with h1 h2
  rw[HN h2,Int.ofNat.inj h1]
theorem HA(a:List Nat):Hg a a=false:=by
 unfold Hg Ia;rw[cA];simp
theorem Hx{a b c:List Nat}(h:Hg a b=true)(k:Hg b c=true):Hg a c=true:=by
 unfold Hg at *;simp only[Fk,D3,Eo]at *;rcases h with h|⟨h1,h2⟩
 ·rcases k with k|⟨k1,_⟩
  ·left;omega
  ·left;omega
 ·rcases k with k|⟨k1,k2⟩
  ·left;omega
  ·right;exact⟨by omega,dv _ _ _ h2 k2⟩
theorem H1{a b:List Nat}(h:Hg a b=false)(hn:a≠b):Hg b a=true:=by
 unfold Hg at *;simp only[Bool.or_eq_false_iff,Bool.and_eq_false_iff,decide_eq_false_iff_not]at h;simp only[Fk,D3,Eo];rcases Nat.lt_or_ge b.length a.length with h1|h1
 ·exact .inl h1
 ·right
  have h2:a.length=b.length:=by omega
  refine⟨h2.symm,?_⟩;rcases h.2 with h3|h3
  ·exact absurd h2 h3
  ·exact eG _ _ h3 fun e=>hn (HN e)
def Hm:List Nat->List (List Nat)->List Nat
 |o,[]=>o
 |o,x::l=>Hm (if Hg x o=true then x else o) l
theorem Hh:∀(l:List (List Nat)) (o:List Nat),(Hm o l=o∨Hm o l∈l)∧Hg o (Hm o l)=false∧∀x∈l,Hg x (Hm o l)=false
 |[],o=>⟨.inl rfl,HA o,fun x hx=>by cases hx⟩
 |x::l,o=>by
  rw[Hm];by_cases h:Hg x o=true
  ·rw[DZ h]
   obtain⟨h1,h2,h3⟩:=Hh l x;refine⟨.inr ?_,?_,fun y hy=>?_⟩
   ·rcases h1 with h1|h1
    ·rw[h1];exact DV
    ·exact DW _ h1
   ·cases hb:Hg o (Hm x l)with
    |false=>rfl
    |true=>rw[Hx h hb]at h2;cases h2
   ·rcases D6.1 hy with rfl|hy
    ·exact h2
    ·exact h3 y hy
  ·rw[D5 h]
   obtain⟨h1,h2,h3⟩:=Hh l o;refine⟨?_,h2,fun y hy=>?_⟩
   ·rcases h1 with h1|h1
    ·exact .inl h1
    ·exact .inr (DW _ h1)
   ·rcases D6.1 hy with rfl|hy
    ·cases hb:Hg y (Hm o l)with
     |false=>rfl
     |true =>
      exfalso
      by_cases e:y=o
      ·subst e;rw[h2]at hb;cases hb
      ·have h4:=H1 (by simpa using h) e
       rw[Hx h4 hb]at h2;cases h2
    ·exact h3 y hy
def HZ(k:Nat):List (List Nat):=(List.range (k+1)).flatMap fun m=>c7 k m 0
theorem Hz{k:Nat}{c:List Nat}:c∈HZ k↔c.Pairwise (·<·)∧∀x∈c,x<k:=by
 unfold HZ;rw[Es];constructor
 ·rintro⟨m,_,h⟩
  obtain⟨_,h2,h3⟩:=pj h;exact⟨h2,fun x hx=>(h3 x hx).2⟩
 ·rintro⟨h1,h2⟩
  have h3:=jG (n:=k) (i:=0) h1 fun x hx=>⟨Ee _,h2 x hx⟩
  exact⟨c.length,FJ.2 (by omega),uz h1 fun x hx=>⟨Ee _,h2 x hx⟩⟩
theorem Ht{n:Nat}:∀k i,(c7 n k i).Pairwise fun a b=>Ia a b=true
 |0,i=>by rw[c7];exact IP _ _
 |k+1,i=>by
  rw[c7];have key:∀q:List Nat,q.Pairwise (·<·)->(q.flatMap fun j=>(c7 n k (j+1)).map (j::·)).Pairwise fun a b=>Ia a b=true:=by
   intro q;induction q with
   |nil=>intro _;exact List.Pairwise.nil
   |cons j q ih =>
    intro hq;rw[FL]at hq;rw[E2,IM];refine⟨?_,ih hq.2,?_⟩
    ·rw[List.pairwise_map]
     refine(Ht k (j+1)).imp fun {x y} hxy=>?_
     show aV ((j:Int)::bH x) ((j:Int)::bH y)=true;rw[aV,DZ rfl];exact hxy
    ·intro x hx y hy
     obtain⟨x',_,rfl⟩:=Ex.1 hx;obtain⟨j',hj',hy⟩:=Es.1 hy;obtain⟨y',_,rfl⟩:=Ex.1 hy;have:=hq.1 j' hj'
     show aV ((j:Int)::bH x') ((j':Int)::bH y')=true;rw[aV,D5 (by omega)]
     exact Ej (by omega)
  exact key _ (List.pairwise_lt_range' (s:=i) (n:=n-i) (step:=1))
theorem HP(k:Nat):(HZ k).Pairwise fun a b=>Hg a b=true:=by
 unfold HZ;have key:∀q:List Nat,q.Pairwise (·<·)->(q.flatMap fun m=>c7 k m 0).Pairwise fun a b=>Hg a b=true:=by
  intro q;induction q with
  |nil=>intro _;exact List.Pairwise.nil
  |cons m q ih =>
   intro hq;rw[FL]at hq;rw[E2,IM];refine⟨?_,ih hq.2,?_⟩
   ·have hm:(c7 k m 0).Pairwise fun a b=>Ia a b=true∧a.length=b.length:=by
     refine List.Pairwise.and_mem.1 (Ht m 0)|>.imp ?_;rintro a b ⟨ha,hb,h⟩;exact⟨h,by rw[(pj ha).1,(pj hb).1]⟩
    refine hm.imp fun {a b} h=>?_
    unfold Hg;rw[Ej h.2,h.1];simp
   ·intro x hx y hy
    obtain⟨m',hm',hy⟩:=Es.1 hy;have:=hq.1 m' hm'
    unfold Hg;rw[Ej (show x.length<y.length by rw[(pj hx).1,(pj hy).1];exact this)];simp
 exact key _ Jw
def JL(G:List (List Nat))(c:List Nat):Bool:=G.any fun rs=>rs.all fun i=>decide (i∈c)
theorem Hy{G:List (List Nat)}{c:List Nat}:JL G c=true↔∃rs∈G,∀i∈rs,i∈c:=by
 unfold JL;simp only[Jz,D7,Eo]
theorem Hi:∀{l m:List Nat},l.Nodup->(∀x∈l,x∈m)->l.length<=m.length
 |[],m,_,_=>Ee _
 |x::l,m,hn,h=>by
  rw[Gc]at hn;have hx:=h x DV;have ih:=Hi (m:=m.erase x) hn.2 fun y hy=>by
   have hy':=h y (DW _ hy);have hne:y≠x:=fun e=>hn.1 (e▸hy)
   exact(List.mem_erase_of_ne hne).2 hy'
  have hl:=List.length_erase_of_mem hx;have hp:1<=m.length:=by
   cases m with
   |nil=>cases hx
   |cons a m=>simp
  rw[Ek];omega
theorem rise_eq:∀{a b:List Nat},a.Pairwise (·<·)->b.Pairwise (·<·)->(∀x∈a,x∈b)->b.length<=a.length->a=b:=fun {a b} ha hb h hl=>by
 refine rU (R:=fun (x y:Nat)=>x<y) (fun x hx=>GZ x hx) (fun x y z h1 h2=>Nat.lt_trans h1 h2) ha hb fun x=>⟨h x,fun hx=>?_⟩
 refine Classical.byContradiction fun hxa=>?_
 have hn:(x::a).Nodup:=Gc.2 ⟨hxa,ha.imp fun {x y} e=>by omega⟩
 have:=Hi hn fun y hy=>by
  rcases D6.1 hy with rfl|hy
  ·exact hx
  ·exact h y hy
 rw[Ek]at this;omega
theorem HL{k:Nat}{G:List (List Nat)}(hG:∀rs∈G,∀i∈rs,i<k){o:List Nat}{l:List (List Nat)}(h:G.map (HB k)=o::l):(HZ k).find? (JL G)=some (Hm o l):=by
 obtain⟨h1,h2,h3⟩:=Hh l o;generalize Hm o l=m at *;have hm:m∈o::l:=by
  rcases h1 with rfl|h1
  ·exact DV
  ·exact DW _ h1
 have hall:∀x∈o::l,Hg x m=false:=fun x hx=>by
  rcases D6.1 hx with rfl|hx
  ·exact h2
  ·exact h3 x hx
 rw[←h]at hm hall;obtain⟨rs,hrs,rfl⟩:=Ex.1 hm;have hmA:HB k rs∈HZ k:=Hz.2 ⟨He k rs,setR_lt⟩;have hmC:JL G (HB k rs)=true:=Hy.2 ⟨rs,hrs,fun i hi=>(Hd (hG rs hrs)).2 hi⟩
 cases hf:(HZ k).find? (JL G)with
 |none =>
  have:=List.find?_eq_none.1 hf _ hmA
  exact absurd hmC this
 |some c =>
  have hc:=List.find?_some hf;obtain⟨xs0,bs,e,hno⟩:=(List.find?_eq_some_iff_append.1 hf).2;have hcA:c∈HZ k:=Jy hf;have hle:Hg (HB k rs) c=false:=by
   cases hb:Hg (HB k rs) c with
   |false=>rfl
   |true =>
    exfalso
    have hs:=HP k;rw[e]at hs hmA;rcases Ez.1 hmA with hA|hA
    ·have:=hno _ hA
     rw[hmC]at this;cases this
    ·rcases D6.1 hA with hA|hA
     ·rw[hA,HA]at hb;cases hb
     ·have h5:=(FL.1 (IM.1 hs).2.1).1 _ hA
      have:=Hx hb h5
      rw[HA]at this;cases this
  obtain⟨qs,hqs,hq⟩:=Hy.1 hc;have hcr:=Hz.1 hcA;have hsub:∀x∈HB k qs,x∈c:=fun x hx=>hq x ((Hd (hG qs hqs)).1 hx)
  have hlen:=Hi ((He k qs).imp fun {x y} e=>by omega) hsub
  have hqm:=hall _ (Ex.2 ⟨qs,hqs,rfl⟩)
  congr 1
  refine Classical.byContradiction fun hne=>?_
  have hbc:=H1 hle fun e=>hne e.symm
  by_cases hl:c.length<=(HB k qs).length
  ·have:=rise_eq (He k qs) hcr.1 hsub hl
   rw[this,hbc]at hqm;cases hqm
  ·have:Hg (HB k qs) c=true:=by
    unfold Hg;rw[Ej (show(HB k qs).length<c.length by omega)];rfl
   rw[Hx this hbc]at hqm;cases hqm
def JF(k:Nat)(G:List (List Nat)):List Nat:=(List.range k).filter fun r=>G.all fun rs=>decide (r∈rs)
theorem JU(k:Nat){G:List (List Nat)}(hG:∀rs∈G,∀i∈rs,i<k):JF k G=(List.range k).filter fun r=>!JL G ((List.range k).filter fun i=>decide (i≠r)):=by
 unfold JF;refine IQ fun r _=>?_
 rw[FD,D7,GB,←JA,Hy];constructor
 ·rintro h ⟨rs,hrs,hc⟩
  have h1:=Eu (h rs hrs);have:=Gd.1 (hc r h1)
  simp at this
 ·intro h rs hrs
  refine Ej (Classical.byContradiction fun hr=>h ⟨rs,hrs,fun i hi=>Gd.2 ⟨FJ.2 (hG rs hrs i hi),Ej fun e=>hr (e▸hi)⟩⟩)
theorem sum_cons(f:Sn->Int)(l:List Sn)(j:Nat)(d:List Nat):gu f l (j::d)=fV f l j+gu f l d:=by unfold gu;rw[EE,E3]
def leM(a b:Nat×Nat):Prop:=a.1<=b.1∧a.2<=b.2
theorem Jc(M:Int->Nat×Nat)(m:Int)(a:Nat×Nat)(r:Rl):leM a (ruleF M m a r):=by
 unfold ruleF leM;split
 ·exact⟨Nat.le_add_right _ _,Nat.le_max_left _ _⟩
 ·exact⟨DS _,DS _⟩
theorem I7{M M':Int->Nat×Nat}:∀{l:List Int},(∀x∈l,leM (M' x) (M x))->eJ M' l<=eJ M l
 |[],_=>DS _
 |x::l,h=>by
  have h1:=(h x DV).1;have h2:=I7 fun y hy=>h y (DW _ hy)
  exact Nat.mul_le_mul h1 h2
theorem Jf{M M':Int->Nat×Nat}:∀{l:List Int},(∀x∈l,leM (M' x) (M x))->ng M' l<=ng M l
 |[],_=>DS _
 |x::l,h=>by
  have h1:=(h x DV).2;have h2:=Jf fun y hy=>h y (DW _ hy)
  show(M' x).2+ng M' l<=(M x).2+ng M l
  omega
theorem IX(M:Int->Nat×Nat)(m:Int)(a:Nat×Nat)(r:Rl):ruleF M m a r=if r.frm=m∧okF M r=true then(a.1+eJ M r.to,max a.2 (ng M r.to))else a:=by
 have e:ruleF M m a r=if r.frm=m∧okF M r=true then(a.1+(r.to.map fun x=>(M x).1).foldl (·*·) 1,max a.2 ((r.to.map fun x=>(M x).2).sum))else a:=rfl
 rw[e,qw,JB,zo]
theorem Jl{M M':Int->Nat×Nat}{m:Int}{a b:Nat×Nat}{r:Rl}(h:r.frm=m->∀x∈r.to,leM (M' x) (M x))(hab:leM a b):leM (ruleF M' m a r) (ruleF M m b r):=by
 rw[IX,IX];by_cases h1:r.frm=m∧okF M' r=true
 ·have hl:=h h1.1
  have h2:okF M r=true:=by
   have h3:=h1.2;unfold okF at h3 ⊢;rw[D7]at h3 ⊢;intro x hx;have h4:=Eu (h3 x hx);have h5:=(hl x hx).1;exact Ej (by omega)
  rw[DZ h1,DZ ⟨h1.1,h2⟩];have h6:=I7 hl;have h7:=Jf hl;obtain⟨k1,k2⟩:=hab;refine⟨?_,?_⟩
  ·show a.1+eJ M' r.to<=b.1+eJ M r.to
   omega
  ·show max a.2 (ng M' r.to)<=max b.2 (ng M r.to)
   omega
 ·rw[D5 h1]
  have:=Jc M m b r
  rw[IX]at this;exact⟨Em hab.1 this.1,Em hab.2 this.2⟩
theorem IW{M M':Int->Nat×Nat}{m:Int}:∀{rl' rl:List Rl} {a b:Nat×Nat},List.Sublist rl' rl->(∀r∈rl',r.frm=m->∀x∈r.to,leM (M' x) (M x))->leM a b->leM (rl'.foldl (ruleF M' m) a) (rl.foldl (ruleF M m) b)
 |_,_,a,b,.slnil,_,h=>h
 |_,_,a,b,.cons r hs,hr,h=>by
  rw[EI];have:=Jc M m b r
  exact IW hs hr ⟨Em h.1 this.1,Em h.2 this.2⟩
 |_,_,a,b,.cons_cons r hs,hr,h=>by
  rw[EI,EI];exact IW hs (fun q hq=>hr q (DW _ hq)) (Jl (hr r DV) h)
theorem Ja{e n:Int}{rl rl':List Rl}{M M':Int->Nat×Nat}(hM:MTab e n rl M)(hM':MTab e n rl' M')(hs:List.Sublist rl' rl)(hr:RlOk rl)(hi:RlIn n rl):∀k:Nat,∀x:Int,0<=x->x<n->e-x<=k->leM (M' x) (M x)
 |0,x,h0,hx,hk=>by
  rw[hM.leaf x (by omega) hx,hM'.leaf x (by omega) hx]
  exact⟨DS _,DS _⟩
 |k+1,x,h0,hx,hk=>by
  by_cases he:e<=x
  ·rw[hM.leaf x he hx,hM'.leaf x he hx]
   exact⟨DS _,DS _⟩
  ·rw[hM.node x h0 (by omega),hM'.node x h0 (by omega)]
   refine IW hs (fun r hrm hf y hy=>?_) ⟨DS _,DS _⟩
   have hm:=hs.subset hrm;have h1:=(hr r hm).2 y hy;have h2:=hi r hm y hy;exact Ja hM hM' hs hr hi k y h2.1 h2.2 (by omega)
theorem I5{e:Int}{sc:List Sn}{rl rl':List Rl}(h:StoryOk e sc rl)(hs:List.Sublist rl' rl)(hn:rl'≠[]):StoryOk e sc rl':=by
 have hp:PartsOk e sc rl':=⟨h.e1,h.e6,h.s1,h.s8,Gk.2 hn,Em hs.length_le h.r10,h.sn,fun r hr=>h.rr r (hs.subset hr)⟩
 have hm:=Ja h.toPartsOk.tab hp.tab hs h.toPartsOk.rlok h.toPartsOk.rlin e.toNat 0 (EN _) (by have:=h.e1;omega) (by omega)
 exact⟨hp,Em hm.1 h.many,Em hm.2 h.long⟩
def JD(rl:List Rl)(rules:List Nat):List Rl:=rules.filterMap fun i=>rl[i]?
theorem I3{rl:List Rl}:∀{rules:List Nat},(∀i∈rules,i<rl.length)->(JD rl rules).length=rules.length
 |[],_=>rfl
 |i::rules,h=>by
  have hi:i<rl.length:=h i DV;have h1:rl[i]?=some rl[i]:=DT hi;unfold JD;rw[F0,h1];simp only[Ek];have:=I3 (rules:=rules) fun j hj=>h j (DW _ hj)
  unfold JD at this;rw[this]
theorem I1{rl:List Rl}:∀{rules:List Nat} {j:Nat},(∀i∈rules,i<rl.length)->(JD rl rules)[j]?=(rules[j]?).bind fun i=>rl[i]?
 |[],j,_=>by simp[JD]
 |i::rules,j,h=>by
  have hi:i<rl.length:=h i DV;have h1:rl[i]?=some rl[i]:=DT hi;have e:JD rl (i::rules)=rl[i]::JD rl rules:=by
   unfold JD;rw[F0,h1]
  rw[e];cases j with
  |zero=>simp[h1]
  |succ j =>
   rw[FB,FB];exact I1 fun x hx=>h x (DW _ hx)
theorem I4{rl:List Rl}:∀{rules:List Nat} {k:Nat},rules.Pairwise (·<·)->(∀i∈rules,k<=i∧i<rl.length)->List.Sublist (JD rl rules) (rl.drop k)
 |[],k,_,_=>List.nil_sublist _
 |i::rules,k,hp,h=>by
  have hp':=FL.1 hp;have hi:=h i DV;have hil:i<rl.length:=hi.2;have h1:rl[i]?=some rl[i]:=DT hil;have e:JD rl (i::rules)=rl[i]::JD rl rules:=by
   unfold JD;rw[F0,h1]
  have ih:=I4 (rl:=rl) (rules:=rules) (k:=i+1) hp'.2 fun x hx=>⟨by have:=hp'.1 x hx;omega,(h x (DW _ hx)).2⟩
  have h2:List.Sublist (rl.drop i) (rl.drop k):=by
   have:rl.drop i=(rl.drop k).drop (i-k):=by rw[GR];congr 1;omega
   rw[this];exact List.drop_sublist _ _
  rw[e];refine List.Sublist.trans ?_ h2;rw[Gl hi.2];exact ih.cons_cons _
theorem I6{e:Int}{rl:List Rl}{rules:List Nat}(h:∀i∈rules,i<rl.length):∀(rs:List Nat) (l:List Int) {p:List Int},fW e (JD rl rules) rs l=some p->fW e rl (rs.filterMap fun j=>rules[j]?) l=some p∧rs.all (fun j=>decide (j<rules.length))=true
 |[],l,p,ht=>⟨ht,rfl⟩
 |j::rs,l,p,ht=>by
  unfold fW at ht;cases hf:bN e l with
  |none=>rw[hf]at ht;cases ht
  |some a =>
   rw[hf,I1 h]at ht;cases hj:rules[j]? with
   |none=>rw[hj]at ht;cases ht
   |some i =>
    rw[hj]at ht;cases hi:rl[i]? with
    |none=>simp only[Jx,hi]at ht;cases ht
    |some r =>
     simp only[Jx,hi]at ht;split at ht
     ·next hq =>
      obtain⟨h1,h2⟩:=I6 h rs _ ht;refine⟨?_,?_⟩
      ·rw[F0,hj]
       show fW e rl (i::_) l=some p;unfold fW;rw[hf,hi];simp only;rw[DZ hq];exact h1
      ·rw[Fv,h2,Fi]
       exact Ej (DR.1 hj).1
     ·cases ht
theorem I9{e:Int}{rl:List Rl}{rules:List Nat}(h:∀i∈rules,i<rl.length):∀(rs:List Nat) (l:List Int) {p:List Int},fW e rl rs l=some p->(∀i∈rs,i∈rules)->∃js,fW e (JD rl rules) js l=some p
 |[],l,p,ht,_=>⟨[],ht⟩
 |i::rs,l,p,ht,hm=>by
  unfold fW at ht;cases hf:bN e l with
  |none=>rw[hf]at ht;cases ht
  |some a =>
   rw[hf]at ht;cases hi:rl[i]? with
   |none=>simp only[hi]at ht;cases ht
   |some r =>
    simp only[hi]at ht;split at ht
    ·next hq =>
     obtain⟨js,hjs⟩:=I9 h rs _ ht fun x hx=>hm x (DW _ hx)
     obtain⟨j,hj⟩:=FT (hm i DV);refine⟨j::js,?_⟩;unfold fW;rw[hf,I1 h,hj];simp only[Jx,hi];rw[DZ hq];exact hjs
    ·cases ht
theorem I8{e:Int}{sc:List Sn}{rl:List Rl}(h:StoryOk e sc rl){rules:List Nat}(hp:rules.Pairwise (·<·))(hl:∀i∈rules,i<rl.length)(hn:rules≠[])(p:List Int):p∈aX e sc (JD rl rules)↔∃d∈fU e sc rl,d.2=p∧∀i∈d.1,i∈rules:=by
 have hs:List.Sublist (JD rl rules) rl:=by
  have:=I4 (rl:=rl) (rules:=rules) (k:=0) hp fun i hi=>⟨Ee _,hl i hi⟩
  rwa [GS]at this
 have hne:JD rl rules≠[]:=fun e=>by
  have:=I3 hl
  rw[e]at this;exact hn (Ew.1 this.symm)
 have h':=I5 h hs hne;rw[h'.play_in];constructor
 ·rintro⟨d,hd,rfl⟩
  obtain⟨h1,_⟩:=I6 hl d.1 [0] ((yj h' d.1 d.2).1 hd);refine⟨(d.1.filterMap fun j=>rules[j]?,d.2),(yj h _ _).2 h1,rfl,fun i hi=>?_⟩
  obtain⟨j,_,hj⟩:=GY.1 hi;exact DU hj
 ·rintro⟨d,hd,rfl,hm⟩
  obtain⟨js,hjs⟩:=I9 hl d.1 [0] ((yj h d.1 d.2).1 hd) hm;exact⟨(js,d.2),(yj h' _ _).2 hjs,rfl⟩
end Go.Pv
