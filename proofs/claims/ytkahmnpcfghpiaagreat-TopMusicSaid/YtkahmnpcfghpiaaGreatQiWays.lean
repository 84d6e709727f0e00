import Derived.Test.YtkahmnpcfghpiaaGreatQgStory
set_option linter.all false
open Go.Proofs.Tryz
namespace Go.Pv
open Go Go.RowKit Go.Proofs
set_option maxRecDepth 200000
set_option maxHeartbeats 8000000
def cfU:CallF:=aE cf0 25 cin
theorem bY:CallFOk prog cfU:=ah aa cin77_ok
theorem scene_78(x:Sn):ab prog 26 [bF x] [] (.ret (.bool (snB x))) []:=by
 refine ab.of0 hTT func26 rfl rfl ?_;unfold bF snB;cases a1:inB x.part 0 2
 ·repeat with_reducible first|refine nz bY ?_|apply ny;simp only[f26,cfU,cin,a1,go_sem];rfl
  exact⟨rfl,rfl,_,rfl,rfl⟩
 cases a2:inB x.least 1 240
 ·repeat with_reducible first|refine nz bY ?_|apply ny;simp only[f26,cfU,cin,a1,a2,go_sem];rfl
  exact⟨rfl,rfl,_,rfl,rfl⟩
 cases a3:inB x.most x.least 240
 ·repeat with_reducible first|refine nz bY ?_|apply ny;simp only[f26,cfU,cin,a1,a2,a3,go_sem];rfl
  exact⟨rfl,rfl,_,rfl,rfl⟩
 ·repeat with_reducible first|refine nz bY ?_|apply ny;simp only[f26,cfU,cin,a1,a2,a3,go_sem];rfl
  exact⟨rfl,rfl,_,rfl,rfl⟩
def c78:Tb_
 |[v],sg=>match rB v with
  |some x=>some (.ret (.bool (snB x)),sg)
  |none=>none
 |_,_=>none
theorem c78_ok:al prog 26 c78:=al.of0 (ent func26 rfl) fun args sg r sg' h=>by
 unfold c78 at h;split at h <;> try (cases h;done)
 split at h <;> cases h
 rename_i x h1;obtain rfl:=rJ _ _ h1;exact⟨_,rfl,rfl,rfl,scene_78 x⟩
theorem G9{α:Type}{p:α->Bool}{l:List α}{i:Nat}{x:α}(h:l[i]?=some x):(l.drop i).all p=(p x&&(l.drop (i+1)).all p):=by rw[aP h];rfl
theorem rule_79(s:Sty)(q:Rz)(hz:zOk q.1 (q.2.to.map ii)=true)(he:1<=s.e∧s.e<=6)(hs:s.sc.length<=1000):ab prog 27 [.agg s.cells,aT q] [] (.ret (.bool (rlB s.e (s.e+s.sc.length) q.2))) []:=by
 refine ab.of0 hTT func27 rfl rfl ?_;have e1:IntKind.i64.wrap (s.e-1)=s.e-1:=ai (by omega) (by omega)
 have h1:=ap s.sc;have h2:=ao s.rz;have h3:=ac q.2.to;unfold aT rlB;cases a1:inB q.2.frm 0 (s.e-1)
 ·repeat with_reducible first|refine nz bY ?_|apply ny;simp only[f27,cfU,cin,a1,e1,go_sem];rfl
  exact⟨rfl,rfl,_,rfl,rfl⟩
 cases a2:inB q.2.to.length 1 4
 ·repeat with_reducible first|refine nz bY ?_|apply ny;simp only[f27,cfU,cin,a1,a2,e1,go_sem];rfl
  exact⟨rfl,rfl,_,rfl,rfl⟩
 have b1:0<=q.2.frm∧q.2.frm<=s.e-1:=bm.1 a1;have b2:q.2.to.length<=4:=by have:=bm.1 a2;omega
 repeat with_reducible first|refine nz bY ?_|apply ny;simp only[f27,cfU,cin,a1,a2,e1,go_sem];rfl
 refine am.keep [5,4,3,2] (by simp only[go_sem];rfl) ?_
 obtain⟨p,hp⟩:∃p:Int->Bool,p=fun x=>inB x (q.2.frm+1) (s.e+s.sc.length-1):=⟨_,rfl⟩
 have hp':∀x,inB x (q.2.frm+1) (s.e+s.sc.length-1)=p x:=fun x=>by rw[hp]
 simp only[hp',EJ];refine am.loop (fun i s'=>q.2.to.all p=(q.2.to.drop i).all p∧s'=⟨[(5,ii (i:Nat)),(4,.bool false),(3,.bp 1 0),(2,.bp 0 0)],44,[.var s.cells false,.var [ii q.2.frm,.sl q.1 (q.2.to.map ii)] false]⟩) q.2.to.length ⟨rfl,by simp only[go_sem]⟩ ?_
 rintro i _ hi ⟨hm,rfl⟩;by_cases hlt:i<q.2.to.length
 ·obtain⟨x,hx⟩:=gex hlt
  have hx':(q.2.to.map ii)[i]?=some (ii x):=aw hx;have hlt':(i:Int)<q.2.to.length:=by omega
  have hz':q.1≠.n:=fun e=>by have:=bd hz e;rw[this]at hlt;simp at hlt
  have e4:=wIs i (by omega)
  have e5:IntKind.i64.wrap (q.2.frm+1)=q.2.frm+1:=ai (by omega) (by omega)
  have e6:IntKind.i64.wrap (s.e+s.sc.length)=s.e+s.sc.length:=ai (by omega) (by omega)
  have e7:IntKind.i64.wrap (s.e+s.sc.length-1)=s.e+s.sc.length-1:=ai (by omega) (by omega)
  have hpx:=hp' x;cases hb:p x
  ·rw[hb]at hpx
   repeat with_reducible first|refine nz bY ?_|apply ny;simp only[f27,cfU,cin,hx',hlt',hz',e4,e5,e6,e7,hpx,go_sem];rfl
   refine⟨rfl,rfl,_,rfl,?_⟩;rw[hm,G9 hx,hb];rfl
  ·rw[hb]at hpx
   repeat with_reducible first|refine nz bY ?_|apply ny;simp only[f27,cfU,cin,hx',hlt',hz',e4,e5,e6,e7,hpx,go_sem];rfl
   refine ak.t 2 [5,4,3,2] hlt (by simp only[aA,az,aF,an,go_sem]) ⟨by rw[hm,G9 hx,hb];rfl,by simp only[go_sem]⟩
 ·have hlt':¬(i:Int)<q.2.to.length:=by omega
  repeat with_reducible first|refine nz bY ?_|apply ny;simp only[f27,hlt',go_sem];rfl
  refine⟨rfl,rfl,_,rfl,?_⟩;rw[hm,Ef (by omega)];rfl
def c79:Tb_
 |[v,w],sg=>match cS v,mJ w with
  |some s,some q=>if(1<=s.e∧s.e<=6)∧s.sc.length<=1000∧zOk q.1 (q.2.to.map ii)=true then some (.ret (.bool (rlB s.e (s.e+s.sc.length) q.2)),sg)else none
  |_,_=>none
 |_,_=>none
theorem c79_ok:al prog 27 c79:=al.of0 (ent func27 rfl) fun args sg r sg' h=>by
 unfold c79 at h;split at h <;> try (cases h;done)
 split at h <;> try (cases h;done)
 rename_i s q h1 h2;split at h <;> cases h
 rename_i hc;obtain⟨rfl,hok⟩:=aM h1;obtain rfl:=lZ _ _ h2;exact⟨_,rfl,rfl,by rw[af,cm,af,Ab];rfl,rule_79 s q hc.2.2 hc.1 hc.2.1⟩
theorem List_34(s:Sty)(z:Z)(l:List Int)(a:Int)(hz:z=.n->l=[])(hl:l.length<=100000)(hs:s.sc.length<=1000):ab prog 18 [.agg s.cells,.sl z (l.map ii),ii a] [] (.ret (.bool (decide (l.length<=10)&&l.all fun x=>inB x a ((s.sc.length:Int)-1)))) []:=by
 refine ab.of0 hTT func18 rfl rfl ?_;have h1:=ap s.sc;have h2:=ao s.rz;have h3:=ac l;repeat with_reducible first|refine nz bY ?_|apply ny;simp only[f18,go_sem];rfl
 refine am.keep [7,6,3,1,2] (by simp only[go_sem];rfl) ?_
 obtain⟨p,hp⟩:∃p:Int->Bool,p=fun x=>inB x a ((s.sc.length:Int)-1):=⟨_,rfl⟩
 have hp':∀x,inB x a ((s.sc.length:Int)-1)=p x:=fun x=>by rw[hp]
 simp only[hp'];refine am.loop (fun i s'=>l.all p=(l.drop i).all p∧s'=⟨[(7,ii (i:Nat)),(6,.bool false),(3,.bp 0 0),(1,.sl z (l.map ii)),(2,ii a)],28,[.var s.cells false]⟩) l.length ⟨rfl,by simp only[go_sem]⟩ ?_
 rintro i _ hi ⟨hm,rfl⟩;by_cases hlt:i<l.length
 ·obtain⟨x,hx⟩:=gex hlt
  have hx':(l.map ii)[i]?=some (ii x):=aw hx;have hlt':(i:Int)<l.length:=by omega
  have hz':z≠.n:=fun e=>by rw[hz e]at hlt;simp at hlt
  have e4:=wIs i (by omega)
  have e7:IntKind.i64.wrap ((s.sc.length:Int)-1)=(s.sc.length:Int)-1:=ai (by omega) (by omega)
  have hpx:=hp' x;cases hb:p x
  ·rw[hb]at hpx
   repeat with_reducible first|refine nz bY ?_|apply ny;simp only[f18,cfU,cin,hx',hlt',hz',e4,e7,hpx,go_sem];rfl
   refine⟨rfl,rfl,_,rfl,?_⟩;rw[hm,G9 hx,hb,Bool.false_and,Bool.and_false];rfl
  ·rw[hb]at hpx
   repeat with_reducible first|refine nz bY ?_|apply ny;simp only[f18,cfU,cin,hx',hlt',hz',e4,e7,hpx,go_sem];rfl
   refine ak.t 1 [7,6,3,1,2] hlt (by simp only[aA,az,aF,an,go_sem]) ⟨by rw[hm,G9 hx,hb];rfl,by simp only[go_sem]⟩
 ·have hlt':¬(i:Int)<l.length:=by omega
  have hd:decide ((l.length:Int)<=10)=decide (l.length<=10):=by rw[Fa];omega
  repeat with_reducible first|refine nz bY ?_|apply ny;simp only[f18,hlt',hd,go_sem];rfl
  refine⟨rfl,rfl,_,rfl,?_⟩;rw[hm,Ef (by omega),List.all_nil,Fi];rfl
def iX(k:Int)(l:List Int):Int:=l.foldl (fun n x=>min k (n*x)) 1
theorem v7{k:Int}{l:List Int}{i:Nat}{x:Int}(h:l[i]?=some x):iX k (l.take (i+1))=min k (iX k (l.take i)*x):=by
 unfold iX;rw[Ev,h,FC];rfl
theorem prodI_bd{l:List Int}(h:∀x∈l,0<=x):0<=iX 41 l∧iX 41 l<=41:=by
 have key:∀(l:List Int) (n:Int),(∀x∈l,0<=x)->0<=n->n<=41->0<=l.foldl (fun n x=>min 41 (n*x)) n∧l.foldl (fun n x=>min 41 (n*x)) n<=41:=by
  intro l;induction l with
  |nil=>intro n _ h0 h1;exact⟨h0,h1⟩
  |cons a l ih =>
   intro n hl h0 h1;have:=GU h0 (hl a DV)
   exact ih (min 41 (n*a)) (fun x hx=>hl x (DW _ hx)) (by omega) (by omega)
 exact key l 1 h (by omega) (by omega)
theorem vV(l:List Nat):iX 41 (l.map fun (n:Nat)=>(n:Int))=(nv (min 41) l:Nat):=by
 have key:∀(l:List Nat) (n:Nat),(l.map fun (n:Nat)=>(n:Int)).foldl (fun n x=>min 41 (n*x)) (n:Int)=((l.foldl (fun n x=>min 41 (n*x)) n:Nat):Int):=by
  intro l;induction l with
  |nil=>intro n;rfl
  |cons x l ih =>
   intro n;rw[EE,EI,EI];have:min 41 ((n:Int)*(x:Int))=((min 41 (n*x):Nat):Int):=by
    rw[←Int.natCast_mul];omega
   rw[this];exact ih _
 exact key l 1
theorem prodC_ne(l:List Nat):nv (min 41) l≠0↔∀x∈l,x≠0:=by
 have key:∀(l:List Nat) (n:Nat),l.foldl (fun n x=>min 41 (n*x)) n≠0↔n≠0∧∀x∈l,x≠0:=by
  intro l;induction l with
  |nil=>intro n;simp
  |cons x l ih =>
   intro n;rw[EI,ih];constructor
   ·rintro⟨h1,h2⟩
    have h3:n*x≠0:=fun e=>by rw[e]at h1;omega
    rw[Fm]at h3;refine⟨h3.1,fun y hy=>?_⟩
    rcases D6.1 hy with rfl|hy
    ·exact h3.2
    ·exact h2 y hy
   ·rintro⟨h1,h2⟩
    have h3:=h2 x DV;have h4:n*x≠0:=Fm.2 ⟨h1,h3⟩;exact⟨by omega,fun y hy=>h2 y (DW _ hy)⟩
 have:=key l 1
 unfold nv;rw[this];simp
theorem capped(e n:Nat)(rl:List Rl)(i:Nat):∀p∈fm (min 41) (min 11) e n rl i,p.1<=41∧p.2<=11:=fun p hp=>by
 rw[ja (gX 41 (by omega)) (gX 11 (by omega))]at hp
 obtain⟨q,_,rfl⟩:=Ex.1 hp;exact⟨Gp _ _,Gp _ _⟩
theorem qx{m:Nat}{suf:List (Nat×Nat)}{a:Nat×Nat}{r:Rl}(ha:a.1<=41∧a.2<=11):(cM (min 41) (min 11) m suf a r).1<=41∧(cM (min 41) (min 11) m suf a r).2<=11:=by
 unfold cM;split
 ·refine⟨Gp _ _,?_⟩
  have:=Gp 11 ((r.to.map fun x=>(eo suf (m+1) x).2).sum)
  simp only;omega
 ·exact ha
theorem zf{m:Nat}{suf:List (Nat×Nat)}:∀(rl:List Rl) (a:Nat×Nat),a.1<=41∧a.2<=11->(rl.foldl (cM (min 41) (min 11) m suf) a).1<=41∧(rl.foldl (cM (min 41) (min 11) m suf) a).2<=11
 |[],_,h=>h
 |r::rl,a,h=>zf rl _ (qx h)
theorem qj{c f:Nat->Nat}{m:Nat}{suf:List (Nat×Nat)}:∀(rl:List Rl) (a:Nat×Nat),(∀r∈rl,r.frm≠m)->rl.foldl (cM c f m suf) a=a
 |[],_,_=>rfl
 |r::rl,a,h=>by
  rw[EI];have:cM c f m suf a r=a:=D5 fun k=>h r DV k.1
  rw[this];exact qj rl a fun x hx=>h x (DW _ hx)
theorem IG{m:Nat}{a:Nat×Nat}{suf:List (Nat×Nat)}{r:Rl}(ha:a.1<=41)(hf:r.frm=m)(hr:∀x∈r.to,(m:Int)<x):
 ((cM (min 41) (min 11) m suf a r).1:Int)=min 41 ((a.1:Int)+iX 41 (r.to.map fun x=>(cE Prod.fst m (a::suf)).getD x.toNat 0)) ∧
 ((cM (min 41) (min 11) m suf a r).2:Int)=if 0<iX 41 (r.to.map fun x=>(cE Prod.fst m (a::suf)).getD x.toNat 0)then max (a.2:Int) (min 11 ((r.to.map fun x=>(cE Prod.snd m (a::suf)).getD x.toNat 0).sum))else a.2:=by
 have h1:(r.to.map fun x=>(cE Prod.fst m (a::suf)).getD x.toNat 0)=(r.to.map fun x=>(eo suf (m+1) x).1).map fun (n:Nat)=>(n:Int):=by
  rw[Fb];exact EP fun x hx=>et rfl m a suf x (hr x hx)
 have h2:(r.to.map fun x=>(cE Prod.snd m (a::suf)).getD x.toNat 0)=(r.to.map fun x=>(eo suf (m+1) x).2).map fun (n:Nat)=>(n:Int):=by
  rw[Fb];exact EP fun x hx=>et rfl m a suf x (hr x hx)
 have h3:∀l:List Nat,(l.map fun (n:Nat)=>(n:Int)).sum=((l.sum:Nat):Int):=by
  intro l;induction l with
  |nil=>rfl
  |cons a l ih=>rw[EE,E3,E3,ih];omega
 have h4:=prodC_ne (r.to.map fun x=>(eo suf (m+1) x).1)
 rw[h1,h2,vV,h3];unfold cM;by_cases he:lh suf (m+1) r=true
 ·rw[DZ ⟨hf,he⟩]
  have h5:nv (min 41) (r.to.map fun x=>(eo suf (m+1) x).1)≠0:=h4.2 fun y hy=>by
   obtain⟨x,hx,rfl⟩:=Ex.1 hy;unfold lh at he;exact Eu (D7.1 he x hx)
  rw[DZ (by omega)]
  simp only;omega
 ·rw[D5 (fun h=>he h.2)]
  have h5:nv (min 41) (r.to.map fun x=>(eo suf (m+1) x).1)=0:=by
   refine Classical.byContradiction fun h=>he ?_
   unfold lh;exact D7.2 fun x hx=>Ej (h4.1 h _ (Ex.2 ⟨x,hx,rfl⟩))
  rw[h5,D5 (by omega)]
  refine⟨?_,rfl⟩
  show(a.1:Int)=min 41 ((a.1:Int)+((0:Nat):Int))
  omega
namespace Sty
def rab(s:Sty):List (Nat×Nat):=fm (min 41) (min 11) s.e.toNat s.num s.rl s.num
def rm(s:Sty):List Int:=s.rab.map fun p=>(p.1:Int)
def rn(s:Sty):List Int:=s.rab.map fun p=>(p.2:Int)
theorem rab_len(s:Sty):s.rab.length=s.num:=f7 _ _ _ _ _ _
theorem rm_len(s:Sty):s.rm.length=s.num:=by unfold rm;rw[DX,rab_len]
theorem rn_len(s:Sty):s.rn.length=s.num:=by unfold rn;rw[DX,rab_len]
end Sty
theorem ri(s:Sty)(hP:PartsOk s.e s.sc s.rl):∃p l,s.rab=p::l∧p.1=min 41 (manyM s.e s.num s.rl 0).1∧p.2=min 11 (manyM s.e s.num s.rl 0).2:=by
 have hn:1<=s.num:=by unfold Sty.num;have:=hP.e1;omega
 have h1:=ja (gX 41 (by omega)) (gX 11 (by omega)) s.e.toNat s.num s.rl s.num
 have h2:=s.rab_len;unfold Sty.rab at *;unfold manyM kF eo;cases ht:fm id id s.e.toNat s.num s.rl s.num with
 |nil=>rw[ht]at h1;rw[h1]at h2;simp at h2;omega
 |cons q l =>
  rw[ht]at h1;exact⟨li (min 41) (min 11) q,l.map (li (min 41) (min 11)),h1,rfl,rfl⟩
end Go.Pv
namespace Go.Pv
open Go Go.RowKit Go.Proofs
set_option maxRecDepth 200000
set_option maxHeartbeats 8000000
abbrev ssU(s:Sty)(mm ll:List Int):List Box:=[.var s.cells false,.row false 3 1 (mm.map ii) false,.row false 3 1 (ll.map ii) false]
theorem vQ{sg:List Box}{i j n m:Nat}{e1 e2:TypeId}{k1 k2:Nat}{es1 es2:List PV}(h1:sg[i]?=some (.row false e1 k1 es1 false))(h2:(sg.set i (.row false e1 k1 es1 true))[j]?=some (.row false e2 k2 es2 false))(hn:n=es1.length)(hm:m=es2.length)(c1:ad es1=true)(c2:ad es2=true):
 bR 0 (.tuple [.ms i n,.ms j m]) sg=(.tuple [.sl .a es1,.sl .a es2],[]):=by
 refine A6 ?_ (by simp[PV.closed,ad,c1,c2])
 rw[lC (n:=7) (by simp[ad,PV.closed])]
 simp only[cO,frzX_row (n:=5) h1 c1 hn,frzX_row (n:=5) h2 c2 hm];rfl
theorem ways_80(s:Sty)(hok:s.ok=true)(hP:PartsOk s.e s.sc s.rl):ab prog 28 [.agg s.cells] [] (.ret (.tuple [.sl .a (s.rm.map ii),.sl .a (s.rn.map ii)])) []:=by
 refine ab.ofF hTT func28 rfl rfl ?_;obtain⟨n,hnn⟩:∃n,n=s.num:=⟨_,rfl⟩;have hn:s.e+s.sc.length=n:=by rw[hnn];unfold Sty.num;have:=hP.e1;omega
 have hn1:n<=14:=by have:=hP.e6;have:=hP.s8;omega
 have e1:IntKind.i64.wrap (s.e+(s.sc.length:Int))=(n:Int):=by rw[hn];exact ai (by omega) (by omega)
 have e2:IntKind.i64.wrap ((n:Int)-1)=(n:Int)-1:=ai (by omega) (by omega)
 have r1:¬(n:Int)<0:=by omega
 have r2:8*n<=281474976710656:=by omega
 have r3:n<=maxLen:=by unfold maxLen;omega
 repeat with_reducible first|refine nz aa ?_|apply ny;simp only[f28,e1,e2,r1,r2,r3,List.length_replicate,go_sem];rfl
 refine am.keep [6,5,4,1] (by simp only[go_sem];rfl) ?_
 obtain⟨T,hT⟩:∃T:Nat->List (Nat×Nat),T=fm (min 41) (min 11) s.e.toNat n s.rl:=⟨_,rfl⟩;have hrab:T n=s.rab:=by rw[hT,hnn];rfl
 refine am.loop (fun i s'=>s'=⟨[(6,ii ((n:Int)-1-(i:Nat))),(5,.ms 2 n),(4,.ms 1 n),(1,.bp 0 0)],111,ssU s (cE Prod.fst (n-i) (T i)) (cE Prod.snd (n-i) (T i))⟩) n (by
  rw[hT];simp only[fm,Int.sub_zero,ssU,go_sem];rw[show cE Prod.snd n []=cE Prod.fst n []from rfl,yF Prod.fst n]) ?_
 rintro i _ hi rfl;by_cases hlt:i<n
 ·obtain⟨m,hm⟩:∃m,n=m+1+i:=⟨n-1-i,by omega⟩
  have em:(n:Int)-1-(i:Nat)=(m:Nat):=by omega
  have hmn:m<n:=by omega
  have hmn':(m:Int)<n:=by omega
  have hm0:(0:Int)<=m:=by omega
  have en:n-i=m+1:=by omega
  have e3:IntKind.i64.wrap ((m:Int)-1)=(n:Int)-1-((i+1:Nat):Int):=by rw[ai (by omega) (by omega)];omega
  have hTi:(T i).length=i:=by rw[hT];exact f7 _ _ _ _ _ i
  have hTs:T (i+1)=(if s.e.toNat<=m then(1,1)else nr (min 41) (min 11) m (T i) s.rl)::T i:=by rw[hT,fm,show n-(i+1)=m by omega]
  have hcap:∀p∈T i,p.1<=41∧p.2<=11:=by rw[hT];exact capped _ _ _ _
  rw[em,en,jN rfl,jN rfl];have l1:∀a,(cE Prod.fst m (a::T i)).length=n:=fun a=>by rw[fb,Ek,hTi];omega
  have l2:∀a,(cE Prod.snd m (a::T i)).length=n:=fun a=>by rw[fb,Ek,hTi];omega
  have s1:∀a a',((cE Prod.fst m (a::T i)).map ii).set m (ii (a':Nat×Nat).1)=(cE Prod.fst m (a'::T i)).map ii:=fun a a'=>by rw[←Ga,lI]
  have s2:∀a a',((cE Prod.snd m (a::T i)).map ii).set m (ii (a':Nat×Nat).2)=(cE Prod.snd m (a'::T i)).map ii:=fun a a'=>by rw[←Ga,lI]
  have k1:∀a,((cE Prod.fst m (a::T i)).map ii)[m]?=some (ii (a:Nat×Nat).1):=fun a=>by rw[eh (by rw[l1];exact hmn),oO]
  have k2:∀a,((cE Prod.snd m (a::T i)).map ii)[m]?=some (ii (a:Nat×Nat).2):=fun a=>by rw[eh (by rw[l2];exact hmn),oO]
  obtain⟨a0,ha0⟩:∃a0:Nat×Nat,a0=if s.e.toNat<=m then(1,1)else(0,0):=⟨_,rfl⟩;have ha0c:a0.1<=41∧a0.2<=11:=by rw[ha0];split <;> exact⟨by omega,by omega⟩
  obtain⟨A,hA⟩:∃A:Nat->Nat×Nat,A=fun j=>(s.rl.take j).foldl (cM (min 41) (min 11) m (T i)) a0:=⟨_,rfl⟩
  have hA0:A 0=a0:=by rw[hA];rfl
  have hAs:∀j q,s.rz[j]?=some q->A (j+1)=cM (min 41) (min 11) m (T i) (A j) q.2:=fun j q h=>by
   rw[hA]
   show(s.rl.take (j+1)).foldl _ _=_
   rw[Ev,Sty.rl_get h,FC];rfl
  have hAc:∀j,(A j).1<=41∧(A j).2<=11:=fun j=>by rw[hA];exact zf _ _ ha0c
  have hAn:T (i+1)=A s.rz.length::T i:=by
   rw[hTs,hA];show _=(s.rl.take s.rz.length).foldl _ _::_;rw[EQ (by rw[s.rl_len];omega),ha0]
   split
   ·next hme =>
    rw[qj];intro r hr e;have:=(hP.rr r hr).2.1
    omega
   ·rfl
  have hr10:=hP.r10;rw[s.rl_len]at hr10;repeat with_reducible first|(fail_if_success refine am.seq (x:=.region 5 _ _) ?_);(fail_if_success show am _ (.region 5 _ _) _ _);refine nz aa ?_|apply ny;simp only[f28,hm0,EO,go_sem];rfl
  iterate 8 with_reducible first|refine nz aa ?_|apply ny;simp only[f28,hm0,go_sem];rfl
  refine am.joinT (k0:=3) ⟨[(6,ii m),(5,.ms 2 n),(4,.ms 1 n),(1,.bp 0 0)],111,ssU s (cE Prod.fst m (a0::T i)) (cE Prod.snd m (a0::T i))⟩ rfl ?_ ?_
  ·by_cases hme:s.e<=m
   ·have t1:=s1 (0,0) (1,1)
    have t2:=s2 (0,0) (1,1);rw[DZ (by omega)]at ha0
    subst ha0;simp only[Int.natCast_one]at t1 t2;repeat with_reducible first|refine nz aa ?_|apply ny;simp only[f28,hme,hm0,hmn,hmn',l1,l2,k1,k2,t1,t2,d9,EO,go_sem];rfl
    exact⟨rfl,kL.keep [6,5,4,1] (by simp only[go_sem])⟩
   ·rw[D5 (by omega)]at ha0
    subst ha0;repeat with_reducible first|refine nz aa ?_|apply ny;simp only[f28,hme,EO,go_sem];rfl
    exact⟨rfl,kL.keep [6,5,4,1] (by simp only[go_sem])⟩
  rw[←hA0];repeat with_reducible first|refine nz aa ?_|apply ny;simp only[f28,go_sem];rfl
  refine am.keep [7,6,5,4,1] (by simp only[go_sem];rfl) ?_
  refine am.loop (fun j s'=>s'=⟨[(7,ii (j:Nat)),(6,ii m),(5,.ms 2 n),(4,.ms 1 n),(1,.bp 0 0)],111,ssU s (cE Prod.fst m (A j::T i)) (cE Prod.snd m (A j::T i))⟩) s.rz.length (by simp only[go_sem]) ?_
  rintro j _ hj rfl;by_cases hjl:j<s.rz.length
  ·obtain⟨q,hq⟩:=gex hjl
   have hq':(s.rz.map aT)[j]?=some (.agg [ii q.2.frm,.sl q.1 (q.2.to.map ii)]):=aw hq;have hjl':(j:Int)<s.rz.length:=by omega
   have hqm:q∈s.rz:=DU hq;have hrq:=hP.rr q.2 (Ex.2 ⟨q,hqm,rfl⟩);have hzr':s.zr≠.n:=fun e=>by rw[bd (Sty.ok_r hok) e]at hjl;simp at hjl
   have hqz:=nQ (Sty.ok_z hok) hqm;have hqn:q.1≠.n:=fun e=>by have:=bd hqz e;rw[this]at hrq;simp at hrq
   have e4:=wIs j (by omega)
   have hAj:=hAs j q hq;have hAb:=hAc j;have hAb1:=hAc (j+1);by_cases hfr:q.2.frm=m
   ·have hfr':(q.2.frm != (m:Int))=false:=by rw[hfr];simp
    have hgt:∀x∈q.2.to,(m:Int)<x:=fun x hx=>by have:=(hrq.2.2.2.2 x hx).1;omega
    obtain⟨hR1,hR2⟩:=IG (suf:=T i) hAb.1 hfr hgt;rw[←hAj]at hR1 hR2;obtain⟨mm,hmm⟩:∃mm,mm=cE Prod.fst m (A j::T i):=⟨_,rfl⟩;obtain⟨ll,hll⟩:∃ll,ll=cE Prod.snd m (A j::T i):=⟨_,rfl⟩;have k1:=k1 (A j);have k2:=k2 (A j);have s1:=s1 (A j) (A (j+1));have s2:=s2 (A j) (A (j+1));have l1:=l1 (A j);have l2:=l2 (A j);obtain⟨fM,hfM⟩:∃fM:Int->Int,fM=fun x=>mm.getD x.toNat 0:=⟨_,rfl⟩
    obtain⟨fL,hfL⟩:∃fL:Int->Int,fL=fun x=>ll.getD x.toNat 0:=⟨_,rfl⟩
    have hfMb:∀x∈q.2.to,0<=fM x∧fM x<=41:=fun x hx=>by
     have h1:=et (g:=Prod.fst) rfl m (A j) (T i) x (hgt x hx);have h2:=(rj hcap (m+1) x).1;rw[hfM,hmm];show 0<=(cE Prod.fst m (A j::T i)).getD x.toNat 0∧(cE Prod.fst m (A j::T i)).getD x.toNat 0<=41;rw[h1];omega
    have hfLb:∀x∈q.2.to,0<=fL x∧fL x<=11:=fun x hx=>by
     have h1:=et (g:=Prod.snd) rfl m (A j) (T i) x (hgt x hx);have h2:=(rj hcap (m+1) x).2;rw[hfL,hll];show 0<=(cE Prod.snd m (A j::T i)).getD x.toNat 0∧(cE Prod.snd m (A j::T i)).getD x.toNat 0<=11;rw[h1];omega
    rw[←hmm]at k1 s1 l1 hR1 hR2 ⊢;rw[←hll]at k2 s2 l2 hR2 ⊢;have hfM':(fun x:Int=>mm.getD x.toNat 0)=fM:=hfM.symm
    have hfL':(fun x:Int=>ll.getD x.toNat 0)=fL:=hfL.symm
    rw[hfM']at hR1 hR2;rw[hfL']at hR2;have hsb:∀k,0<=((q.2.to.take k).map fL).sum∧((q.2.to.take k).map fL).sum<=4*11:=fun k=>by
     have h1:=sT (D:=11) ((q.2.to.take k).map fL) fun y hy=>by
      obtain⟨x,hx,rfl⟩:=Ex.1 hy;exact hfLb x (Ey hx)
     have h2:((q.2.to.take k).map fL).length<=4:=by rw[DX,En];omega
     omega
    have hpb:∀k,0<=iX 41 ((q.2.to.take k).map fM)∧iX 41 ((q.2.to.take k).map fM)<=41:=fun k=>prodI_bd fun y hy=>by
     obtain⟨x,hx,rfl⟩:=Ex.1 hy;exact(hfMb x (Ey hx)).1
    repeat with_reducible first|refine nz aa ?_|apply ny;simp only[f28,hq',hjl',hzr',hfr',e4,go_sem];rfl
    refine am.keep [11,10,9,8,7,6,5,4,1] (by simp only[go_sem];rfl) ?_
    refine am.loop (fun k s'=>s'=⟨[(11,ii (k:Nat)),(10,ii ((q.2.to.take k).map fL).sum),(9,ii (iX 41 ((q.2.to.take k).map fM))),(8,.bp 3 0),(7,ii (j:Nat)),(6,ii m),(5,.ms 2 n),(4,.ms 1 n),(1,.bp 0 0)],111,
     [.var s.cells false,.row false 3 1 (mm.map ii) false,.row false 3 1 (ll.map ii) false,.var [ii q.2.frm,.sl q.1 (q.2.to.map ii)] false]⟩) q.2.to.length (by simp only[go_sem];rfl) ?_
    rintro k _ hk rfl;by_cases hkl:k<q.2.to.length
    ·obtain⟨x,hx⟩:=gex hkl
     have hx':(q.2.to.map ii)[k]?=some (ii x):=aw hx;have hkl':(k:Int)<q.2.to.length:=by omega
     have hxm:=DU hx;have hx0:0<=x:=by have:=hgt x hxm;omega
     have hxn:x<n:=by have:=(hrq.2.2.2.2 x hxm).2;omega
     have hgM:(mm.map ii)[x.toNat]?=some (ii (fM x)):=by rw[hfM];exact eh (by omega)
     have hgL:(ll.map ii)[x.toNat]?=some (ii (fL x)):=by rw[hfL];exact eh (by omega)
     have e5:=wIs k (by omega)
     have hst:=vx (f:=fL) hx;have hpt:iX 41 ((q.2.to.take (k+1)).map fM)=min 41 (iX 41 ((q.2.to.take k).map fM)*fM x):=by
      rw[Fo,Fo];exact v7 (aw hx)
     have hsk:=hsb k;have hsk1:=hsb (k+1);rw[hst]at hsk1;have hpk:=hpb k;have hfx:=hfMb x hxm;rw[rN]at hpt;generalize iX 41 ((q.2.to.take k).map fM)=w at hpk hpt ⊢;have hm1:=GU hpk.1 hfx.1;have hm2:w*fM x<=41*41:=Int.le_trans (Int.mul_le_mul_of_nonneg_right hpk.2 hfx.1) (by omega)
     have e6:IntKind.i64.wrap (((q.2.to.take k).map fL).sum+fL x)=((q.2.to.take k).map fL).sum+fL x:=ai (by omega) (by omega)
     have e7:IntKind.i64.wrap (w*fM x)=w*fM x:=ai (by omega) (by omega)
     repeat with_reducible first|refine nz aa ?_|apply ny;simp only[f28,hx',hkl',hqn,hx0,hxn,hgM,hgL,e5,e6,e7,l1,l2,go_sem];rfl
     refine ak.t 4 [11,10,9,8,7,6,5,4,1] hkl (by simp only[az,aA,aF,an,go_sem]) (by rw[hst,hpt];simp only[go_sem])
    ·have hkl':¬(k:Int)<q.2.to.length:=by omega
     obtain rfl:k=q.2.to.length:=by omega
     have hsk:=hsb q.2.to.length;have hpk:=hpb q.2.to.length;rw[Eg]at hsk hpk ⊢;generalize iX 41 (q.2.to.map fM)=w at hpk hR1 hR2 ⊢;generalize (q.2.to.map fL).sum=sL at hsk hR2 ⊢;rw[rN]at hR1;have e7:IntKind.i64.wrap (((A j).1:Int)+w)=((A j).1:Int)+w:=ai (by omega) (by omega)
     by_cases hw:0<w
     ·rw[DZ hw,rN,max_if]at hR2
      rw[hR1]at s1;rw[hR2]at s2;repeat with_reducible first|refine nz aa ?_|apply ny;simp only[f28,hkl',hm0,hmn,hmn',hw,k1,k2,s1,s2,d9,e4,e7,l1,l2,EW,go_sem];rfl
      refine ak.t 3 [7,6,5,4,1] hjl (by simp only[az,aA,aF,an,go_sem]) (by simp only[go_sem])
     ·rw[D5 hw]at hR2
      have hll2:cE Prod.snd m (A (j+1)::T i)=ll:=by
       rw[hll];have e:(A (j+1)).2=(A j).2:=by omega
       unfold cE;rw[EE,EE,e]
      rw[hR1]at s1;repeat with_reducible first|refine nz aa ?_|apply ny;simp only[f28,hkl',hm0,hmn,hmn',hw,k1,k2,s1,d9,e4,e7,l1,l2,EW,go_sem];rfl
      refine ak.t 3 [7,6,5,4,1] hjl (by simp only[az,aA,aF,an,go_sem]) (by rw[hll2];simp only[go_sem])
   ·have hfr':(q.2.frm != (m:Int))=true:=eC hfr
    have hAe:A (j+1)=A j:=by rw[hAj,cM,D5 (fun h=>hfr h.1)]
    repeat with_reducible first|refine nz aa ?_|apply ny;simp only[f28,hq',hjl',hzr',hfr',e4,go_sem];rfl
    refine ak.t 3 [7,6,5,4,1] hjl (by simp only[az,aA,aF,an,go_sem]) (by rw[hAe];simp only[go_sem])
  ·have hjl':¬(j:Int)<s.rz.length:=by omega
   obtain rfl:j=s.rz.length:=by omega
   repeat with_reducible first|refine nz aa ?_|apply ny;simp only[f28,hjl',e3,go_sem];rfl
   refine ak.k [6,5,4,1] hlt (by simp only[go_sem];rfl) ?_
   rw[hAn,show n-(i+1)=m by omega]
 ·obtain rfl:i=n:=by omega
  have hge:¬(0:Int)<=(i:Int)-1-(i:Nat):=by omega
  have l1:(cE Prod.fst 0 (T i)).length=i:=by rw[fb,hT,f7];omega
  have l2:(cE Prod.snd 0 (T i)).length=i:=by rw[fb,hT,f7];omega
  rw[F9];repeat with_reducible first|refine nz aa ?_|apply ny;simp only[f28,hge,EO,go_sem];rfl
  refine⟨rfl,rfl,.tuple [.ms 1 i,.ms 2 i],rfl,?_⟩;rw[vQ (es1:=(cE Prod.fst 0 (T i)).map ii) (es2:=(cE Prod.snd 0 (T i)).map ii) rfl rfl (by rw[DX,l1]) (by rw[DX,l2]) (ac _) (ac _)]
  rw[hrab];rfl
def c80:Tb_
 |[v],sg=>match cS v with
  |some s=>if s.parts=true then some (.ret (.tuple [.sl .a (s.rm.map ii),.sl .a (s.rn.map ii)]),sg)else none
  |none=>none
 |_,_=>none
theorem c80_ok:al prog 28 c80:=al.of0 (ent func28 rfl) fun args sg r sg' h=>by
 unfold c80 at h;split at h <;> try (cases h;done)
 split at h <;> try (cases h;done)
 rename_i s h1;split at h <;> cases h
 rename_i hp;obtain⟨rfl,hok⟩:=aM h1;exact⟨_,rfl,rfl,by rw[af,cm];rfl,ways_80 s hok (Sty.parts_ok hp)⟩
def cfS:CallF:=aE (aE (aE cfU 26 c78) 27 c79) 28 c80
theorem de:CallFOk prog cfS:=ah (ah (ah bY c78_ok) c79_ok) c80_ok
theorem Story_20(s:Sty)(hok:s.ok=true):ab prog 5 [.agg s.cells] [] (.ret (.bool s.story)) []:=by
 refine ab.of0 hTT func5 rfl rfl ?_;have hd:=aS s hok;have h1:=ap s.sc;have h2:=ao s.rz;have hst:s.story=(s.parts&&(let t:=((kF s.e.toNat (s.e.toNat+s.sc.length) s.rl).getD 0 (0,0));decide (t.1<=40)&&decide (t.2<=10))):=rfl
 have hpt:s.parts=(inB s.e 1 6&&inB s.sc.length 1 8&&inB s.rz.length 1 10&&s.sc.all snB&&s.rl.all (rlB s.e (s.e+s.sc.length))):=by
  unfold Sty.parts nM;rw[s.rl_len]
 cases a1:inB s.e 1 6
 ·rw[a1]at hpt
  repeat with_reducible first|refine nz de ?_|apply ny;simp only[f5,cfS,cfU,cin,a1,go_sem];rfl
  refine⟨rfl,rfl,_,rfl,?_⟩;rw[hst,hpt];rfl
 cases a2:inB s.sc.length 1 8
 ·rw[a1,a2]at hpt
  repeat with_reducible first|refine nz de ?_|apply ny;simp only[f5,cfS,cfU,cin,a1,a2,go_sem];rfl
  refine⟨rfl,rfl,_,rfl,?_⟩;rw[hst,hpt];rfl
 cases a3:inB s.rz.length 1 10
 ·rw[a1,a2,a3]at hpt
  repeat with_reducible first|refine nz de ?_|apply ny;simp only[f5,cfS,cfU,cin,a1,a2,a3,go_sem];rfl
  refine⟨rfl,rfl,_,rfl,?_⟩;rw[hst,hpt];rfl
 have b1:=bm.1 a1;have b2:=bm.1 a2;have b3:=bm.1 a3;rw[a1,a2,a3]at hpt;simp only[EJ]at hpt;repeat with_reducible first|refine nz de ?_|apply ny;simp only[f5,cfS,cfU,cin,a1,a2,a3,go_sem];rfl
 refine am.keep [3,2,1] (by simp only[go_sem];rfl) ?_
 refine am.loop (fun i s'=>s.sc.all snB=(s.sc.drop i).all snB∧s'=⟨[(3,ii (i:Nat)),(2,.bool false),(1,.bp 0 0)],69,[.var s.cells false]⟩) s.sc.length ⟨rfl,by simp only[go_sem]⟩ ?_
 rintro i _ hi ⟨hm,rfl⟩;by_cases hlt:i<s.sc.length
 ·obtain⟨x,hx⟩:=gex hlt
  have hx':(s.sc.map bF)[i]?=some (.agg [ii x.part,ii x.least,ii x.most,.bool x.loose,.bool x.formula]):=aw hx;have hlt':(i:Int)<s.sc.length:=by omega
  have hz':s.zs≠.n:=fun e=>by have:=bd (Sty.ok_s hok) e;rw[this]at hlt;simp at hlt
  have e4:=wIs i (by omega)
  have hdx:rB (.agg [ii x.part,ii x.least,ii x.most,.bool x.loose,.bool x.formula])=some x:=rfl;rw[G9 hx]at hm;cases hb:snB x
  ·rw[hb]at hm
   repeat with_reducible first|refine nz de ?_|apply ny;simp only[f5,cfS,cfU,c78,hx',hlt',hz',hdx,hb,go_sem];rfl
   refine⟨rfl,rfl,_,rfl,?_⟩;rw[hst,hpt,hm];rfl
  ·rw[hb]at hm
   repeat with_reducible first|refine nz de ?_|apply ny;simp only[f5,cfS,cfU,c78,hx',hlt',hz',hdx,hb,e4,go_sem];rfl
   refine ak.t 1 [3,2,1] hlt (by simp only[aA,az,aF,an,go_sem]) ⟨hm,by simp only[go_sem]⟩
 have hlt':¬(i:Int)<s.sc.length:=by omega
 rw[Ef (by omega)]at hm
 have hm:s.sc.all snB=true:=hm;rw[hm,EJ]at hpt;clear hm;repeat with_reducible first|refine nz aa ?_|apply ny;simp only[f5,hlt',go_sem];rfl
 refine am.keep [4,2,1] (by simp only[go_sem];rfl) ?_
 refine am.loop (fun i s'=>s.rl.all (rlB s.e (s.e+s.sc.length))=(s.rl.drop i).all (rlB s.e (s.e+s.sc.length))∧s'=⟨[(4,ii (i:Nat)),(2,.bool false),(1,.bp 0 0)],69,[.var s.cells false]⟩) s.rz.length ⟨rfl,by simp only[go_sem]⟩ ?_
 clear hlt' hlt hi;rintro i _ hi ⟨hm,rfl⟩;by_cases hlt:i<s.rz.length
 ·obtain⟨q,hq⟩:=gex hlt
  have hq':(s.rz.map aT)[i]?=some (.agg [ii q.2.frm,.sl q.1 (q.2.to.map ii)]):=aw hq;have hlt':(i:Int)<s.rz.length:=by omega
  have hz':s.zr≠.n:=fun e=>by have:=bd (Sty.ok_r hok) e;rw[this]at hlt;simp at hlt
  have hqz:=nQ (Sty.ok_z hok) (DU hq);have e4:=wIs i (by omega)
  have hdq:mJ (.agg [ii q.2.frm,.sl q.1 (q.2.to.map ii)])=some q:=jR q;have hcq:=ac q.2.to;have k2:s.sc.length<=1000:=by omega
  rw[G9 (Sty.rl_get hq)]at hm;cases hb:rlB s.e (s.e+s.sc.length) q.2
  ·rw[hb]at hm
   repeat with_reducible first|refine nz de ?_|apply ny;simp only[f5,cfS,cfU,c79,hd,h1,h2,b1,k2,hqz,hcq,hq',hlt',hz',hdq,hb,go_sem];rfl
   refine⟨rfl,rfl,_,rfl,?_⟩;rw[hst,hpt,hm];rfl
  ·rw[hb]at hm
   repeat with_reducible first|refine nz de ?_|apply ny;simp only[f5,cfS,cfU,c79,hd,h1,h2,b1,k2,hqz,hcq,hq',hlt',hz',hdq,hb,e4,go_sem];rfl
   refine ak.t 1 [4,2,1] hlt (by simp only[aA,az,aF,an,go_sem]) ⟨hm,by simp only[go_sem]⟩
 have hlt':¬(i:Int)<s.rz.length:=by omega
 rw[Ef (by rw[s.rl_len];omega)]at hm
 have hm:s.rl.all (rlB s.e (s.e+s.sc.length))=true:=hm;rw[hm]at hpt;have hP:=Sty.parts_ok hpt;obtain⟨p,l,q1,q2,q3⟩:=ri s hP;have hrm:s.rm.map ii=ii p.1::(l.map fun p=>(p.1:Int)).map ii:=by unfold Sty.rm;rw[q1];rfl
 have hrn:s.rn.map ii=ii p.2::(l.map fun p=>(p.2:Int)).map ii:=by unfold Sty.rn;rw[q1];rfl
 have hrm':(s.rm.map ii)[0]?=some (ii p.1):=by rw[hrm];rfl
 have hrn':(s.rn.map ii)[0]?=some (ii p.2):=by rw[hrn];rfl
 have hnum:1<=s.num:=by unfold Sty.num;omega
 have hl1:(0:Int)<(s.rm.length:Int):=by rw[s.rm_len];omega
 have hl2:(0:Int)<(s.rn.length:Int):=by rw[s.rn_len];omega
 have ez:(Z.a=Z.n)=False:=by simp
 have h3:=ac s.rm;have h4:=ac s.rn;have hmm:(manyM s.e s.num s.rl 0)=(kF s.e.toNat (s.e.toNat+s.sc.length) s.rl).getD 0 (0,0):=rfl;rw[hst,hpt,←hmm];simp only[EJ];by_cases c1:p.1<=40
 ·have c1':(p.1:Int)<=40:=by omega
  repeat with_reducible first|refine nz de ?_|apply ny;simp only[f5,cfS,c80,hd,hpt,h1,h2,h3,h4,hlt',hrm',hrn',hl1,hl2,ez,c1',go_sem];rfl
  refine⟨rfl,rfl,_,rfl,?_⟩;rw[Ej (show(manyM s.e s.num s.rl 0).1<=40 by omega),EJ,show decide ((manyM s.e s.num s.rl 0).2<=10)=decide ((p.2:Int)<=10)by rw[Fa];omega]
  rfl
 ·have c1':¬(p.1:Int)<=40:=by omega
  repeat with_reducible first|refine nz de ?_|apply ny;simp only[f5,cfS,c80,hd,hpt,h1,h2,h3,h4,hlt',hrm',hrn',hl1,hl2,ez,c1',go_sem];rfl
  refine⟨rfl,rfl,_,rfl,?_⟩;rw[Ei (show ¬(manyM s.e s.num s.rl 0).1<=40 by omega)]
  rfl
def c20:Tb_
 |[v],sg=>match cS v with
  |some s=>some (.ret (.bool s.story),sg)
  |none=>none
 |_,_=>none
theorem c20_ok:al prog 5 c20:=al.of0 (ent func5 rfl) fun args sg r sg' h=>by
 unfold c20 at h;split at h <;> try (cases h;done)
 split at h <;> cases h
 rename_i s h1;obtain⟨rfl,hok⟩:=aM h1;exact⟨_,rfl,rfl,by rw[af,cm];rfl,Story_20 s hok⟩
end Go.Pv
