import Derived.Test.YtmebonambbhehaaGreatQaAl
set_option linter.all false
namespace Go.Pv
structure Sn where
 part:Int
 least:Int
 most:Int
 loose:Bool
 formula:Bool
structure Rl where
 frm:Int
 to:List Int
def inB(x a b:Int):Bool:=decide (a<=x)&&decide (x<=b)
def snB(x:Sn):Bool:=inB x.part 0 2&&inB x.least 1 240&&inB x.most x.least 240
def rlB(e n:Int)(r:Rl):Bool:=inB r.frm 0 (e-1)&&inB r.to.length 1 4&&r.to.all fun x=>inB x (r.frm+1) (n-1)
def nM(e:Int)(sc:List Sn)(rl:List Rl):Bool :=
 inB e 1 6&&inB sc.length 1 8&&inB rl.length 1 10&&sc.all snB&&rl.all (rlB e (e+sc.length))
def eo(suf:List (Nat×Nat))(m1:Nat)(x:Int):Nat×Nat:=suf.getD (x.toNat-m1) (0,0)
def nv(c:Nat->Nat)(l:List Nat):Nat:=l.foldl (fun n x=>c (n*x)) 1
def lh(suf:List (Nat×Nat))(m1:Nat)(r:Rl):Bool:=r.to.all fun x=>decide ((eo suf m1 x).1≠0)
def cM(c f:Nat->Nat)(m:Nat)(suf:List (Nat×Nat))(a:Nat×Nat)(r:Rl):Nat×Nat :=
 if r.frm=m∧lh suf (m+1) r=true then(c (a.1+nv c (r.to.map fun x=>(eo suf (m+1) x).1)),max a.2 (f (r.to.map fun x=>(eo suf (m+1) x).2).sum))else a
def nr(c f:Nat->Nat)(m:Nat)(suf:List (Nat×Nat))(rl:List Rl):Nat×Nat:=rl.foldl (cM c f m suf) (0,0)
def fm(c f:Nat->Nat)(e n:Nat)(rl:List Rl):Nat->List (Nat×Nat)
 |0=>[]
 |k+1=>(if e<=n-(k+1)then(1,1)else nr c f (n-(k+1)) (fm c f e n rl k) rl)::fm c f e n rl k
structure Cap(c:Nat->Nat):Prop where
 zero:c 0=0
 one:c 1=1
 pos:∀a,c a=0->a=0
 idem:∀a,c (c a)=c a
 add:∀a b,c (c a+c b)=c (a+b)
 mul:∀a b,c (c a*c b)=c (a*b)
 mx:∀a b,c (max a b)=max (c a) (c b)
theorem cap_id:Cap id:=⟨rfl,rfl,fun _ h=>h,fun _=>rfl,fun _ _=>rfl,fun _ _=>rfl,fun _ _=>rfl⟩
theorem gX(k:Nat)(hk:1<=k):Cap (min k):=by
 refine⟨by omega,by omega,fun a h=>by omega,fun a=>by omega,fun a b=>by omega,fun a b=>?_,fun a b=>by omega⟩
 have key:∀a b:Nat,min k (min k a*b)=min k (a*b):=fun a b=>by
  rcases Nat.le_total k a with h|h
  ·rw[F4 h]
   rcases FH b with rfl|hb
   ·simp
   ·have h1:k<=k*b:=Nat.le_mul_of_pos_right _ hb
    have h2:k<=a*b:=Em h1 (E7 _ h);rw[F4 h1,F4 h2]
  ·rw[Nat.min_eq_right h]
 rw[key,Gr,key,Gr]
def li(c f:Nat->Nat)(p:Nat×Nat):Nat×Nat:=(c p.1,f p.2)
theorem MB{c f:Nat->Nat}(hc:Cap c)(hf:Cap f)(suf:List (Nat×Nat))(m:Nat)(x:Int):eo (suf.map (li c f)) m x=li c f (eo suf m x):=by
 unfold eo;rw[Ep,Ep,Eh];cases suf[x.toNat-m]? with
 |none=>show(0,0)=li c f (0,0);unfold li;rw[hc.zero,hf.zero]
 |some p=>rfl
theorem qX{c:Nat->Nat}(hc:Cap c):∀(l:List Nat) (n:Nat),(l.map c).foldl (fun n x=>c (n*x)) (c n)=c (l.foldl (fun n x=>n*x) n)
 |[],n=>rfl
 |x::l,n=>by
  show(l.map c).foldl (fun n x=>c (n*x)) (c (c n*c x))=c (l.foldl (fun n x=>n*x) (n*x))
  rw[hc.mul,qX hc l]
theorem AO{f:Nat->Nat}(hf:Cap f):∀l:List Nat,f ((l.map f).sum)=f l.sum
 |[]=>rfl
 |x::l=>by
  rw[EE,E3,E3,←hf.add (f x),hf.idem,AO hf l,hf.add]
theorem ends_cap{c f:Nat->Nat}(hc:Cap c)(hf:Cap f)(suf:List (Nat×Nat))(m:Nat)(r:Rl):lh (suf.map (li c f)) m r=lh suf m r:=by
 unfold lh
 congr 1
 funext x
 rw[MB hc hf];show decide (c (eo suf m x).1≠0)=_;by_cases h:(eo suf m x).1=0
 ·rw[h,hc.zero]
 ·have:c (eo suf m x).1≠0:=fun e=>h (hc.pos _ e)
  simp[h,this]
theorem rule_cap{c f:Nat->Nat}(hc:Cap c)(hf:Cap f)(m:Nat)(suf:List (Nat×Nat))(a:Nat×Nat)(r:Rl):cM c f m (suf.map (li c f)) (li c f a) r=li c f (cM id id m suf a r):=by
 unfold cM;rw[ends_cap hc hf];split
 ·have h1:(r.to.map fun x=>(eo (suf.map (li c f)) (m+1) x).1)=(r.to.map fun x=>(eo suf (m+1) x).1).map c:=by
   rw[Fb];refine EP fun x _=>?_
   rw[MB hc hf];rfl
  have h2:(r.to.map fun x=>(eo (suf.map (li c f)) (m+1) x).2)=(r.to.map fun x=>(eo suf (m+1) x).2).map f:=by
   rw[Fb];refine EP fun x _=>?_
   rw[MB hc hf];rfl
  rw[h1,h2];have h3:=qX hc (r.to.map fun x=>(eo suf (m+1) x).1) 1
  rw[hc.one]at h3
  show(c (c a.1+nv c _),max (f a.2) (f _))=(c (a.1+nv id _),f (max a.2 _))
  unfold nv;rw[h3,AO hf,hc.add,hf.mx];rfl
 ·rfl
theorem cell_cap{c f:Nat->Nat}(hc:Cap c)(hf:Cap f)(m:Nat)(suf:List (Nat×Nat))(rl:List Rl):nr c f m (suf.map (li c f)) rl=li c f (nr id id m suf rl):=by
 unfold nr;have key:∀(rl:List Rl) (a:Nat×Nat),rl.foldl (cM c f m (suf.map (li c f))) (li c f a)=li c f (rl.foldl (cM id id m suf) a):=by
  intro rl;induction rl with
  |nil=>intro a;rfl
  |cons r rl ih =>
   intro a;show rl.foldl _ (cM c f m (suf.map (li c f)) (li c f a) r)=_;rw[rule_cap hc hf,ih];rfl
 have:=key rl (0,0)
 have e:li c f (0,0)=(0,0):=by unfold li;rw[hc.zero,hf.zero]
 rw[e]at this;exact this
theorem ja{c f:Nat->Nat}(hc:Cap c)(hf:Cap f)(e n:Nat)(rl:List Rl):∀k,fm c f e n rl k=(fm id id e n rl k).map (li c f)
 |0=>rfl
 |k+1=>by
  rw[fm,fm,EE,←ja hc hf e n rl k]
  congr 1
  split
  ·unfold li;rw[hc.one,hf.one]
  ·rw[ja hc hf e n rl k,cell_cap hc hf]
def kF(e n:Nat)(rl:List Rl):List (Nat×Nat):=fm id id e n rl n
def AA(e:Int)(sc:List Sn)(rl:List Rl):Bool :=
 nM e sc rl&&(let t:=((kF e.toNat (e.toNat+sc.length) rl).getD 0 (0,0));decide (t.1<=40)&&decide (t.2<=10))
theorem f7(c f:Nat->Nat)(e n:Nat)(rl:List Rl):∀k,(fm c f e n rl k).length=k
 |0=>rfl
 |k+1=>by rw[fm,Ek,f7 c f e n rl k]
theorem sO(c f:Nat->Nat)(e n:Nat)(rl:List Rl)(x:Int):∀d k,k+d<=n->n-k<=x.toNat->x.toNat<n ->
 eo (fm c f e n rl (k+d)) (n-(k+d)) x=eo (fm c f e n rl k) (n-k) x
 |0,k,_,_,_=>rfl
 |d+1,k,h,h1,h2=>by
  rw[←sO c f e n rl x d k (by omega) h1 h2]
  unfold eo;rw[show k+(d+1)=(k+d)+1 by omega,fm]
  rw[show x.toNat-(n-(k+d+1))=(x.toNat-(n-(k+d)))+1 by omega]
  rfl
theorem tab_at(c f:Nat->Nat)(e n:Nat)(rl:List Rl)(x:Int)(k:Nat)(hk:k<n)(hx:x.toNat=n-(k+1)):
 eo (fm c f e n rl n) 0 x=(if e<=n-(k+1)then(1,1)else nr c f (n-(k+1)) (fm c f e n rl k) rl):=by
 have h:=sO c f e n rl x (n-(k+1)) (k+1) (by omega) (by omega) (by omega)
 rw[show k+1+(n-(k+1))=n by omega,F9]at h
 rw[h,fm];unfold eo;rw[hx,F9];rfl
def ruleF(M:Int->Nat×Nat)(m:Int)(a:Nat×Nat)(r:Rl):Nat×Nat :=
 if r.frm=m∧(r.to.all fun x=>decide ((M x).1≠0))=true then(a.1+(r.to.map fun x=>(M x).1).foldl (·*·) 1,max a.2 ((r.to.map fun x=>(M x).2).sum))else a
theorem oD{α:Type}{l:List α}{p q:α->Bool}(h:∀x,x∈l->p x=q x):l.all p=l.all q:=by
 induction l with
 |nil=>rfl
 |cons a l ih=>rw[Fv,Fv,h a DV,ih fun x hx=>h x (DW _ hx)]
theorem nK{α β:Type}{f g:α->List β}:∀{l:List α},(∀x,x∈l->f x=g x)->l.flatMap f=l.flatMap g
 |[],_=>rfl
 |a::l,h=>by rw[E2,E2,h a DV,nK fun x hx=>h x (DW _ hx)]
theorem CC(e n:Nat)(rl:List Rl)(k:Nat)(hk:k<n)(r:Rl)(hr:∀x∈r.to,r.frm<x∧x<n)(m:Int)(h0:0<=m)(hm:m.toNat=n-(k+1))(a:Nat×Nat):
 cM id id (n-(k+1)) (fm id id e n rl k) a r=ruleF (fun x=>eo (fm id id e n rl n) 0 x) m a r:=by
 have em:((n-(k+1):Nat):Int)=m:=by omega
 unfold cM ruleF lh;rw[em];by_cases hf:r.frm=m
 ·have key:∀x∈r.to,eo (fm id id e n rl k) (n-(k+1)+1) x=eo (fm id id e n rl n) 0 x:=fun x hx=>by
   have h1:=hr x hx;have h:=sO id id e n rl x (n-k) k (by omega) (by omega) (by omega)
   rw[show k+(n-k)=n by omega,F9]at h
   rw[h,show n-(k+1)+1=n-k by omega]
  have k1:(r.to.map fun x=>(eo (fm id id e n rl k) (n-(k+1)+1) x).1)=r.to.map fun x=>(eo (fm id id e n rl n) 0 x).1:=EP fun x hx=>congrArg Prod.fst (key x hx)
  have k2:(r.to.map fun x=>(eo (fm id id e n rl k) (n-(k+1)+1) x).2)=r.to.map fun x=>(eo (fm id id e n rl n) 0 x).2:=EP fun x hx=>congrArg Prod.snd (key x hx)
  have k3:(r.to.all fun x=>decide ((eo (fm id id e n rl k) (n-(k+1)+1) x).1≠0))=r.to.all fun x=>decide ((eo (fm id id e n rl n) 0 x).1≠0):=oD fun x hx=>by rw[key x hx]
  rw[k1,k2,k3];rfl
 ·rw[D5 (fun h=>hf h.1),D5 (fun h=>hf h.1)]
def bN(e:Int):List Int->Option Nat
 |[]=>none
 |x::l=>if x<e then some 0 else(bN e l).map (·+1)
def iy(l:List Int)(a:Nat)(to:List Int):List Int:=l.take a++to++l.drop (a+1)
def iN(ok:Rl->Bool)(m:Int):List Rl->Nat->List (Nat×Rl)
 |[],_=>[]
 |r::rl,i=>if r.frm=m∧ok r=true then(i,r)::iN ok m rl (i+1)else iN ok m rl (i+1)
def Mj(e:Int)(ok:Rl->Bool)(rl:List Rl):Nat->List Int->List (List Nat×List Int)
 |0,_=>[]
 |f+1,l=>match bN e l with
  |none=>[([],l.map (·-e))]
  |some a=>(iN ok (l.getD a 0) rl 0).flatMap fun ir=>(Mj e ok rl f (iy l a ir.2.to)).map fun d=>(ir.1::d.1,d.2)
def wtM(e:Int)(x:Int):Nat:=5 ^ (e-x).toNat
def wtF(e:Int)(l:List Int):Nat:=(l.map (wtM e)).sum
theorem wt_pos(e x:Int):1<=wtM e x:=Nat.pow_pos (by omega)
theorem vv(e:Int)(l m:List Int):wtF e (l++m)=wtF e l+wtF e m:=by unfold wtF;rw[Ec,List.sum_append]
theorem fe{e:Int}:∀{l:List Int} {a:Nat},bN e l=some a->a<l.length∧l.getD a 0<e
 |[],a,h=>by cases h
 |x::l,a,h=>by
  rw[bN]at h;split at h
  ·next hx=>cases h;exact⟨by simp,by simpa using hx⟩
  ·cases hf:bN e l with
   |none=>rw[hf]at h;cases h
   |some b =>
    rw[hf]at h;cases h;have ih:=fe hf;refine⟨by simp;omega,?_⟩
    simpa using ih.2
theorem fT{e:Int}:∀{l:List Int},bN e l=none->∀x∈l,e<=x
 |[],_,x,hx=>by cases hx
 |y::l,h,x,hx=>by
  rw[bN]at h;split at h
  ·cases h
  ·next hy =>
   cases hf:bN e l with
   |some b=>rw[hf]at h;cases h
   |none =>
    rcases D6.1 hx with rfl|hx
    ·omega
    ·exact fT hf x hx
theorem lA{l:List Int}{a:Nat}(ha:a<l.length):l=l.take a++[l.getD a 0]++l.drop (a+1):=by
 have h1:l.getD a 0=l[a]:=by rw[Ep,DT ha];rfl
 rw[h1,Et,List.singleton_append,←Gl ha,Ff]
theorem wt_to{e m:Int}{to:List Int}(hm:m<e)(hl:to.length<=4)(ht:∀x∈to,m<x):wtF e to<wtM e m:=by
 have h:∀l:List Int,(∀x∈l,m<x)->wtF e l<=l.length*5 ^ ((e-m).toNat-1):=by
  intro l;induction l with
  |nil=>intro _;exact Ee _
  |cons x l ih =>
   intro h;have h1:=ih fun y hy=>h y (DW _ hy)
   have h2:wtM e x<=5 ^ ((e-m).toNat-1):=FA (by omega) (by have:=h x DV;omega)
   show wtM e x+wtF e l<=(l.length+1)*_;rw[E4,Nat.one_mul];omega
 have h1:=h to ht;have h2:to.length*5 ^ ((e-m).toNat-1)<=4*5 ^ ((e-m).toNat-1):=E7 _ hl;have h3:0<5 ^ ((e-m).toNat-1):=Nat.pow_pos (by omega)
 have h4:wtM e m=5 ^ ((e-m).toNat-1)*5:=by
  unfold wtM;rw[show(e-m).toNat=((e-m).toNat-1)+1 by omega,Nat.pow_succ]
  simp
 omega
theorem wt_put{e:Int}{l:List Int}{a:Nat}{to:List Int}(ha:a<l.length)(hm:l.getD a 0<e)(hl:to.length<=4)(ht:∀x∈to,l.getD a 0<x):wtF e (iy l a to)<wtF e l:=by
 have h:=wt_to hm hl ht
 conv=>rhs;rw[lA ha]
 unfold iy;rw[vv,vv,vv,vv];have:wtF e [l.getD a 0]=wtM e (l.getD a 0):=by unfold wtF;simp
 omega
theorem kd{ok:Rl->Bool}{m:Int}:∀{rl:List Rl} {i:Nat} {p:Nat×Rl},p∈iN ok m rl i->p.2∈rl∧p.2.frm=m∧ok p.2=true∧i<=p.1∧p.1<i+rl.length∧rl.getD (p.1-i) p.2=p.2
 |[],i,p,h=>by cases h
 |r::rl,i,p,h=>by
  rw[iN]at h;split at h
  ·next hr =>
   rcases D6.1 h with rfl|h
   ·exact⟨DV,hr.1,hr.2,DS _,by simp,by simp⟩
   ·have:=kd h
    refine⟨DW _ this.1,this.2.1,this.2.2.1,by omega,by simp;omega,?_⟩
    rw[show p.1-i=(p.1-(i+1))+1 by omega]
    simpa using this.2.2.2.2.2
  ·have:=kd h
   refine⟨DW _ this.1,this.2.1,this.2.2.1,by omega,by simp;omega,?_⟩
   rw[show p.1-i=(p.1-(i+1))+1 by omega]
   simpa using this.2.2.2.2.2
def RlOk(rl:List Rl):Prop:=∀r∈rl,r.to.length<=4∧∀x∈r.to,r.frm<x
structure MTab(e n:Int)(rl:List Rl)(M:Int->Nat×Nat):Prop where
 leaf:∀x,e<=x->x<n->M x=(1,1)
 node:∀m,0<=m->m<e->M m=rl.foldl (ruleF M m) (0,0)
def okF(M:Int->Nat×Nat)(r:Rl):Bool:=r.to.all fun x=>decide ((M x).1≠0)
def eJ(M:Int->Nat×Nat):List Int->Nat
 |[]=>1
 |x::l=>(M x).1*eJ M l
def ng(M:Int->Nat×Nat):List Int->Nat
 |[]=>0
 |x::l=>(M x).2+ng M l
theorem di(M:Int->Nat×Nat):∀l m,eJ M (l++m)=eJ M l*eJ M m
 |[],m=>by show _=1*_;rw[Nat.one_mul];rfl
 |x::l,m=>by show _*eJ M (l++m)=_*eJ M l*_;rw[di M l m,Nat.mul_assoc]
theorem mg(M:Int->Nat×Nat):∀l m,ng M (l++m)=ng M l+ng M m
 |[],m=>by show _=0+_;rw[EG];rfl
 |x::l,m=>by show _+ng M (l++m)=_+ng M l+_;rw[mg M l m,FF]
theorem qw(M:Int->Nat×Nat):∀l n,(l.map fun x=>(M x).1).foldl (·*·) n=n*eJ M l
 |[],n=>(Nat.mul_one n).symm
 |x::l,n=>by show(l.map fun x=>(M x).1).foldl (·*·) (n*(M x).1)=_;rw[qw M l];show _=n*((M x).1*_);rw[Nat.mul_assoc]
theorem zo(M:Int->Nat×Nat):∀l:List Int,(l.map fun x=>(M x).2).sum=ng M l
 |[]=>rfl
 |x::l=>by rw[EE,E3,zo M l];rfl
theorem jL(M:Int->Nat×Nat)(m:Int):∀(rl:List Rl) (i:Nat) (a:Nat×Nat),
 rl.foldl (ruleF M m) a=(iN (okF M) m rl i).foldl (fun a p=>(a.1+eJ M p.2.to,max a.2 (ng M p.2.to))) a
 |[],_,_=>rfl
 |r::rl,i,a=>by
  rw[EI,iN];show rl.foldl _ (ruleF M m a r)=_;by_cases h:r.frm=m∧okF M r=true
  ·have e1:ruleF M m a r=(a.1+eJ M r.to,max a.2 (ng M r.to)):=by
    have e2:ruleF M m a r=(a.1+(r.to.map fun x=>(M x).1).foldl (·*·) 1,max a.2 ((r.to.map fun x=>(M x).2).sum)):=DZ h
    rw[e2,qw,Nat.one_mul,zo]
   rw[DZ h,e1,EI,←jL M m rl (i+1)]
  ·have e1:ruleF M m a r=a:=D5 h
   rw[D5 h,e1,jL M m rl (i+1)]
theorem pU{α:Type}(g h:α->Nat):∀(l:List α) (a:Nat×Nat),l.foldl (fun a p=>(a.1+g p,max a.2 (h p))) a=(a.1+(l.map g).sum,l.foldl (fun n p=>max n (h p)) a.2)
 |[],a=>by simp
 |x::l,a=>by
  rw[EI,pU g h l,EE,E3,EI,FF]
theorem max_ge{α:Type}(h:α->Nat):∀(l:List α) (a:Nat),a<=l.foldl (fun n p=>max n (h p)) a∧∀p∈l,h p<=l.foldl (fun n p=>max n (h p)) a
 |[],a=>⟨DS _,fun p hp=>by cases hp⟩
 |x::l,a=>by
  rw[EI];have:=max_ge h l (max a (h x))
  refine⟨by omega,fun p hp=>?_⟩
  rcases D6.1 hp with rfl|hp
  ·omega
  ·exact this.2 p hp
theorem tab_many{e n:Int}{rl:List Rl}{M:Int->Nat×Nat}(hM:MTab e n rl M){m:Int}(h0:0<=m)(h1:m<e):(M m).1=((iN (okF M) m rl 0).map fun p=>eJ M p.2.to).sum:=by
 rw[hM.node m h0 h1,jL M m rl 0,pU];exact EG _
theorem tab_long{e n:Int}{rl:List Rl}{M:Int->Nat×Nat}(hM:MTab e n rl M){m:Int}(h0:0<=m)(h1:m<e):∀p∈iN (okF M) m rl 0,ng M p.2.to<=(M m).2:=by
 rw[hM.node m h0 h1,jL M m rl 0,pU];exact(max_ge (fun p:Nat×Rl=>ng M p.2.to) _ 0).2
def InF(n:Int)(l:List Int):Prop:=∀x∈l,0<=x∧x<n
theorem mo{n:Int}{l:List Int}{a:Nat}{to:List Int}(hl:InF n l)(ht:InF n to):InF n (iy l a to):=by
 intro x hx;unfold iy at hx;rcases Ez.1 hx with hx|hx
 ·rcases Ez.1 hx with hx|hx
  ·exact hl x (Ey hx)
  ·exact ht x hx
 ·exact hl x (Fc hx)
theorem p6{l:List Int}{a:Nat}(h:a<l.length):l.getD a 0∈l:=by
 rw[Ep,DT h];exact E5 h
theorem ji{e n:Int}{rl:List Rl}{M:Int->Nat×Nat}(hM:MTab e n rl M):∀l:List Int,(∀x∈l,e<=x)->InF n l->eJ M l=1∧ng M l=l.length
 |[],_,_=>⟨rfl,rfl⟩
 |x::l,h,hi=>by
  have h1:=ji hM l (fun y hy=>h y (DW _ hy)) (fun y hy=>hi y (DW _ hy))
  have h2:=hM.leaf x (h x DV) (hi x DV).2;constructor
  ·show(M x).1*_=1;rw[h1.1,h2];rfl
  ·show(M x).2+_=_;rw[h1.2,h2,Ek];omega
def RlIn(n:Int)(rl:List Rl):Prop:=∀r∈rl,InF n r.to
theorem Li{e n:Int}{rl:List Rl}{M:Int->Nat×Nat}(hM:MTab e n rl M)(hr:RlOk rl)(hi:RlIn n rl):∀f l,InF n l->wtF e l<f->(Mj e (okF M) rl f l).length=eJ M l
 |0,_,_,h=>by omega
 |f+1,l,hl,hf=>by
  rw[Mj];cases h:bN e l with
  |none=>exact(ji hM l (fT h) hl).1.symm
  |some a =>
   have h1:=fe h;have h2:=hl _ (p6 h1.1)
   show(List.flatMap _ _).length=_
   rw[List.length_flatMap]
   conv=>rhs;rw[lA h1.1,di,di]
   have e1:eJ M [l.getD a 0]=(M (l.getD a 0)).1:=by show _*1=_;rw[Nat.mul_one]
   rw[e1,tab_many hM h2.1 h1.2];have key:∀q:List (Nat×Rl),(∀p∈q,p∈iN (okF M) (l.getD a 0) rl 0) ->
    (q.map fun ir=>((Mj e (okF M) rl f (iy l a ir.2.to)).map fun d=>(ir.1::d.1,d.2)).length).sum=eJ M (l.take a)*(q.map fun p=>eJ M p.2.to).sum*eJ M (l.drop (a+1)):=by
    intro q;induction q with
    |nil=>intro _;simp
    |cons p q ih =>
     intro hq;rw[EE,E3,ih (fun y hy=>hq y (DW _ hy)),EE,E3,DX]
     have h5:=kd (hq p DV);have h6:=hr _ h5.1;have h4:=wt_put h1.1 h1.2 h6.1 (fun x hx=>h5.2.1▸h6.2 x hx)
     rw[Li hM hr hi f _ (mo hl (hi _ h5.1)) (by omega)]
     unfold iy;rw[di,di,Nat.mul_add,E4]
   exact key _ fun p hp=>hp
theorem uL{e n:Int}{rl:List Rl}{M:Int->Nat×Nat}(hM:MTab e n rl M)(hi:RlIn n rl):∀f l,InF n l->∀d∈Mj e (okF M) rl f l,d.2.length<=ng M l∧∀x∈d.2,0<=x∧x<n-e
 |0,_,_,d,h=>by cases h
 |f+1,l,hl,d,h=>by
  rw[Mj]at h;cases hf:bN e l with
  |none =>
   rw[hf]at h;cases Ed.1 h
   refine⟨?_,?_⟩
   ·rw[(ji hM l (fT hf) hl).2];simp
   ·intro x hx
    obtain⟨y,hy,rfl⟩:=Ex.1 hx;have h1:=fT hf y hy;have h2:=hl y hy;omega
  |some a =>
   rw[hf]at h;have h1:=fe hf;have h2:=hl _ (p6 h1.1);obtain⟨p,hp,hd⟩:=Es.1 h;obtain⟨d',hd',rfl⟩:=Ex.1 hd;have h5:=kd hp;have ih:=uL hM hi f _ (mo hl (hi _ h5.1)) d' hd';refine⟨?_,ih.2⟩;have h7:=tab_long hM h2.1 h1.2 p hp;have e1:ng M l=ng M (l.take a)+(M (l.getD a 0)).2+ng M (l.drop (a+1)):=by
    conv=>lhs;rw[lA h1.1,mg,mg]
    rfl
   have e2:ng M (iy l a p.2.to)=ng M (l.take a)+ng M p.2.to+ng M (l.drop (a+1)):=by unfold iy;rw[mg,mg]
   have:=ih.1
   show d'.2.length<=_;omega
theorem rU{α:Type}{R:α->α->Prop}(irr:∀a,¬R a a)(tr:∀a b c,R a b->R b c->R a c):∀{l m:List α},l.Pairwise R->m.Pairwise R->(∀x,x∈l↔x∈m)->l=m
 |[],[],_,_,_=>rfl
 |[],y::m,_,_,h=>by cases (h y).2 DV
 |x::l,[],_,_,h=>by cases (h x).1 DV
 |x::l,y::m,hl,hm,h=>by
  rw[FL]at hl hm;have exy:x=y:=by
   rcases D6.1 ((h x).1 DV)with e|h1
   ·exact e
   ·rcases D6.1 ((h y).2 DV)with e|h2
    ·exact e.symm
    ·exact(irr x (tr x y x (hl.1 y h2) (hm.1 x h1))).elim
  subst exy
  congr 1
  refine rU irr tr hl.2 hm.2 fun z=>?_
  constructor
  ·intro hz
   rcases D6.1 ((h z).1 (DW _ hz))with rfl|h1
   ·exact(irr _ (hl.1 _ hz)).elim
   ·exact h1
  ·intro hz
   rcases D6.1 ((h z).2 (DW _ hz))with rfl|h1
   ·exact(irr _ (hm.1 _ hz)).elim
   ·exact h1
def aV:List Int->List Int->Bool
 |[],[]=>false
 |[],_::_=>true
 |_::_,[]=>false
 |x::l,y::m=>if x=y then aV l m else decide (x<y)
theorem cA:∀l,aV l l=false
 |[]=>rfl
 |x::l=>by rw[aV,DZ rfl,cA l]
theorem dv:∀a b c,aV a b=true->aV b c=true->aV a c=true
 |[],[],_,h,_=>by cases h
 |[],_::_,[],_,h=>by cases h
 |[],_::_,_::_,_,_=>rfl
 |_::_,[],_,h,_=>by cases h
 |_::_,_::_,[],_,h=>by cases h
 |x::a,y::b,z::c,h,h'=>by
  rw[aV]at h h' ⊢;by_cases e1:x=y
  ·subst e1
   rw[DZ rfl]at h;by_cases e2:x=z
   ·subst e2
    rw[DZ rfl]at h' ⊢;exact dv a b c h h'
   ·rw[D5 e2]at h' ⊢;exact h'
  ·rw[D5 e1]at h
   have h1:=Eu h;by_cases e2:y=z
   ·subst e2
    rw[D5 e1];exact h
   ·rw[D5 e2]at h'
    have h2:=Eu h';rw[D5 (by omega)]
    exact Ej (by omega)
theorem eG:∀a b,aV a b=false->a≠b->aV b a=true
 |[],[],_,h=>(h rfl).elim
 |[],_::_,h,_=>by cases h
 |_::_,[],_,_=>rfl
 |x::a,y::b,h,hn=>by
  rw[aV]at h ⊢;by_cases e1:x=y
  ·subst e1
   rw[DZ rfl]at h ⊢;exact eG a b h fun e=>hn (by rw[e])
  ·rw[D5 e1]at h
   rw[D5 (fun e=>e1 e.symm)]
   have:=of_decide_eq_false h
   exact Ej (by omega)
def insP(x:List Int):List (List Int)->List (List Int)
 |[]=>[x]
 |y::l=>if aV x y then x::y::l else if x=y then y::l else y::insP x l
def cg(l:List (List Int)):List (List Int):=l.foldr insP []
abbrev Rise(l:List (List Int)):Prop:=l.Pairwise fun a b=>aV a b=true
theorem tk(x:List Int):∀(l:List (List Int)) z,z∈insP x l↔z=x∨z∈l
 |[],z=>by simp[insP]
 |y::l,z=>by
  rw[insP];split
  ·simp
  ·split
   ·next h=>subst h;simp
   ·rw[D6,tk x l z,D6]
    constructor
    ·rintro(h|h|h) <;> simp[h]
    ·rintro(h|h|h) <;> simp[h]
theorem uO(x:List Int):∀l:List (List Int),Rise l->Rise (insP x l)
 |[],_=>List.pairwise_singleton _ _
 |y::l,h=>by
  have h':=FL.1 h;rw[insP];split
  ·next hs =>
   refine FL.2 ⟨fun z hz=>?_,h⟩
   rcases D6.1 hz with rfl|hz
   ·exact hs
   ·exact dv _ _ _ hs (h'.1 z hz)
  ·next hs =>
   split
   ·exact h
   ·next hn =>
    refine FL.2 ⟨fun z hz=>?_,uO x l h'.2⟩
    rcases(tk x l z).1 hz with rfl|hz
    ·exact eG _ _ (by simpa using hs) hn
    ·exact h'.1 z hz
theorem n7:∀(l:List (List Int)) z,z∈cg l↔z∈l
 |[],z=>Iff.rfl
 |x::l,z=>by
  show z∈insP x (cg l)↔_;rw[tk,n7 l z,D6]
theorem fG:∀l:List (List Int),Rise (cg l)
 |[]=>List.Pairwise.nil
 |x::l=>uO x _ (fG l)
theorem tR{l m:List (List Int)}(h:Rise m)(hm:∀z,z∈m↔z∈l):m=cg l :=
 rU (fun a h=>by rw[cA]at h;cases h) dv h (fG l) fun x=>by rw[hm,n7]
theorem rise_of{l:List (List Int)}(h:l.Pairwise fun a b=>aV b a=false)(hn:l.Nodup):Rise l :=
 (h.and hn).imp fun {a b} hh=>eG b a hh.1 fun e=>hh.2 e.symm
def manyM(e:Int)(n:Nat)(rl:List Rl)(x:Int):Nat×Nat:=eo (kF e.toNat n rl) 0 x
theorem ot{α β:Type}{f g:β->α->β}:∀{l:List α} {a:β},(∀b x,x∈l->f b x=g b x)->l.foldl f a=l.foldl g a
 |[],_,_=>rfl
 |x::l,a,h=>by
  rw[EI,EI,h a x DV];exact ot fun b y hy=>h b y (DW _ hy)
theorem many_tab{e:Int}{n:Nat}{rl:List Rl}(he:0<=e)(hn:e<=n)(hr:∀r∈rl,∀x∈r.to,r.frm<x∧x<n):MTab e n rl (manyM e n rl) where
 leaf x h1 h2:=by
  unfold manyM kF;rw[tab_at id id e.toNat n rl x (n-1-x.toNat) (by omega) (by omega),DZ (by omega)]
 node m h0 h1:=by
  have hk:n-1-m.toNat<n:=by omega
  have hm:m.toNat=n-((n-1-m.toNat)+1):=by omega
  have e1:manyM e n rl m=nr id id (n-((n-1-m.toNat)+1)) (fm id id e.toNat n rl (n-1-m.toNat)) rl:=by
   unfold manyM kF;rw[tab_at id id e.toNat n rl m (n-1-m.toNat) hk hm,D5 (by omega)]
  rw[e1];unfold nr;exact ot fun b r hb=>CC e.toNat n rl _ hk r (hr r hb) m h0 hm b
structure PartsOk(e:Int)(sc:List Sn)(rl:List Rl):Prop where
 e1:1<=e
 e6:e<=6
 s1:1<=sc.length
 s8:sc.length<=8
 r1:1<=rl.length
 r10:rl.length<=10
 sn:∀x∈sc,0<=x.part∧x.part<=2∧1<=x.least∧x.least<=240∧x.least<=x.most∧x.most<=240
 rr:∀r∈rl,0<=r.frm∧r.frm<e∧1<=r.to.length∧r.to.length<=4∧∀x∈r.to,r.frm<x∧x<e+sc.length
theorem bm{x a b:Int}:inB x a b=true↔a<=x∧x<=b:=by unfold inB;simp
theorem mB{e:Int}{sc:List Sn}{rl:List Rl}:nM e sc rl=true↔PartsOk e sc rl:=by
 unfold nM snB rlB;simp only[D3,D7,bm];constructor
 ·rintro⟨⟨⟨⟨⟨h1,h2⟩,h3,h4⟩,h5,h6⟩,h7⟩,h8⟩
  exact⟨h1,h2,by omega,by omega,by omega,by omega,fun x hx=>by have:=h7 x hx;omega,
   fun r hr=>by
    have a:=h8 r hr;refine⟨a.1.1.1,by omega,by omega,by omega,fun x hx=>?_⟩
    have:=a.2 x hx
    omega⟩
 ·intro h
  refine⟨⟨⟨⟨⟨h.e1,h.e6⟩,by have:=h.s1;omega,by have:=h.s8;omega⟩,by have:=h.r1;omega,by have:=h.r10;omega⟩,fun x hx=>?_⟩,fun r hr=>?_⟩
  ·have:=h.sn x hx;omega
  ·have:=h.rr r hr
   refine⟨⟨⟨this.1,by omega⟩,by omega,by omega⟩,fun x hx=>?_⟩
   have:=this.2.2.2.2 x hx
   omega
structure StoryOk(e:Int)(sc:List Sn)(rl:List Rl):Prop extends PartsOk e sc rl where
 many:(manyM e (e.toNat+sc.length) rl 0).1<=40
 long:(manyM e (e.toNat+sc.length) rl 0).2<=10
theorem fH{e:Int}{sc:List Sn}{rl:List Rl}:AA e sc rl=true↔StoryOk e sc rl:=by
 unfold AA;rw[D3,mB];have e0:manyM e (e.toNat+sc.length) rl 0=(kF e.toNat (e.toNat+sc.length) rl).getD 0 (0,0):=rfl;constructor
 ·rintro⟨h1,h2⟩
  simp only[D3,Eo]at h2;exact⟨h1,by rw[e0];exact h2.1,by rw[e0];exact h2.2⟩
 ·intro h
  refine⟨h.toPartsOk,?_⟩;simp only[D3,Eo];exact⟨by rw[←e0];exact h.many,by rw[←e0];exact h.long⟩
namespace PartsOk
variable {e:Int} {sc:List Sn} {rl:List Rl} (h:PartsOk e sc rl)
include h
theorem num:((e.toNat+sc.length:Nat):Int)=e+sc.length:=by have:=h.e1;omega
theorem tab:MTab e (e+sc.length) rl (manyM e (e.toNat+sc.length) rl):=by
 have:=many_tab (e:=e) (n:=e.toNat+sc.length) (rl:=rl) (by have:=h.e1;omega) (by have:=h.e1;omega) (fun r hr x hx=>by have:=(h.rr r hr).2.2.2.2 x hx;rw[h.num];exact this)
 rw[h.num]at this;exact this
theorem rlok:RlOk rl:=fun r hr=>⟨(h.rr r hr).2.2.2.1,fun x hx=>((h.rr r hr).2.2.2.2 x hx).1⟩
theorem rlin:RlIn (e+sc.length) rl:=fun r hr x hx=>by
 have h1:=h.rr r hr;have h2:=h1.2.2.2.2 x hx;omega
theorem zero:InF (e+sc.length) [0]:=fun x hx=>by
 rw[Ed.1 hx];have:=h.e1
 omega
end PartsOk
def okR(e:Int)(sc:List Sn)(rl:List Rl):Rl->Bool:=okF (manyM e (e.toNat+sc.length) rl)
def ders(e:Int)(sc:List Sn)(rl:List Rl):List (List Nat×List Int):=Mj e (okR e sc rl) rl (wtF e [0]+1) [0]
def aX(e:Int)(sc:List Sn)(rl:List Rl):List (List Int):=cg ((ders e sc rl).map (·.2))
theorem ders_len{e:Int}{sc:List Sn}{rl:List Rl}(h:StoryOk e sc rl):(ders e sc rl).length<=40:=by
 unfold ders okR;rw[Li h.tab h.rlok h.rlin _ [0] h.zero (FG _)]
 show(manyM e (e.toNat+sc.length) rl 0).1*1<=40
 have:=h.many
 omega
theorem fO{e:Int}{sc:List Sn}{rl:List Rl}(h:StoryOk e sc rl):∀d∈ders e sc rl,d.2.length<=10∧∀x∈d.2,0<=x∧x<sc.length:=by
 intro d hd;have:=uL h.tab h.rlin _ [0] h.zero d hd
 have e1:ng (manyM e (e.toNat+sc.length) rl) [0]=(manyM e (e.toNat+sc.length) rl 0).2:=Fz _;refine⟨by have:=h.long;omega,fun x hx=>?_⟩
 have:=this.2 x hx
 omega
end Go.Pv
namespace Go.Pv
def bH(l:List Nat):List Int:=l.map Int.ofNat
def ofB(ds:List (List Nat×List Int))(p:List Int):List (List Nat×List Int):=ds.filter fun d=>decide (d.2=p)
def dG(last:Option (List Int))(x:List Int):Bool:=match last with
 |none=>true
 |some y=>aV y x
theorem vD{l:List (List Int)}(h:Rise l):l.Nodup:=h.imp fun {a b} hab e=>by
 subst e;rw[cA]at hab;cases hab
namespace StoryOk
variable {e:Int} {sc:List Sn} {rl:List Rl} (h:StoryOk e sc rl)
include h
end StoryOk
end Go.Pv
namespace Go.Pv
end Go.Pv
