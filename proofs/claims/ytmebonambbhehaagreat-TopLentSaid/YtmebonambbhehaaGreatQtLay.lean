import Derived.Test.YtmebonambbhehaaGreatQtIdx
set_option linter.all false
open Go.Proofs.Tryz
namespace Go.Pv
open Go Go.RowKit Go.Proofs
set_option maxRecDepth 200000
set_option maxHeartbeats 8000000
def Ls(a b:List Int):Nat:=((a.zip b).filter fun x=>decide (x.1≠x.2)).length
theorem MV{a b:List Int}{i:Nat}{x y:Int}(hx:a[i]?=some x)(hy:b[i]?=some y):Ls (a.take (i+1)) (b.take (i+1))=Ls (a.take i) (b.take i)+if x=y then 0 else 1:=by
 have hi:=(DR.1 hx).1;have hj:=(DR.1 hy).1;unfold Ls;rw[Ev,Ev,hx,hy]
 show(((a.take i++[x]).zip (b.take i++[y])).filter _).length=_
 rw[List.zip_append (by rw[En,En];omega),Ft,Ea]
 congr 1
 by_cases h:x=y
 ·rw[DZ h];subst h;simp
 ·rw[D5 h];simp[h]
theorem Oh(a b:List Int):Ls a b<=b.length:=by
 unfold Ls;have h1:=Fh (fun x:Int×Int=>decide (x.1≠x.2)) (a.zip b)
 rw[List.length_zip]at h1;omega
theorem moved_38(c:Ch)(z zq:Z)(p q:List Int)(hz:zOk z (p.map ii)=true)(hzq:zOk zq (q.map ii)=true)(hl:q.length<=p.length)(hn:p.length<=1000):
 ab prog 38 [.agg (pkC c z p),.sl zq (q.map ii)] [] (.ret (ii (Ls p q:Nat))) []:=by
 refine ab.of0 hTT func38 rfl rfl ?_;have hcf:=cY c.fs;have hcp:=cV p;have h0:((Ls (p.take 0) (q.take 0):Nat):Int)=0:=rfl;repeat with_reducible first|refine nz aa ?_|apply ny;simp only[f38,hcf,hcp,go_sem];rfl
 refine am.keep [10,9,8,5,2] (by simp only[go_sem];rfl) ?_
 refine am.loop (fun i s'=>s'=⟨[(10,ii (i:Nat)),(9,ii (q.length:Nat)),(8,.sl zq (q.map ii)),(5,ii (Ls (p.take i) (q.take i):Nat)),(2,.bp 0 0)],26,[.var (pkC c z p) false]⟩) q.length (by first|(simp only[h0,go_sem];first|done|rfl)|rfl) ?_
 rintro i _ hi rfl;by_cases hlt:i<q.length
 ·obtain⟨y,hy⟩:=gex hlt
  obtain⟨x,hx⟩:∃x,p[i]?=some x:=⟨_,DT (by omega)⟩
  have hy':(q.map ii)[i]?=some (ii y):=aw hy;have hx':(p.map ii)[i]?=some (ii x):=aw hx;have hlt':(i:Int)<q.length:=by omega
  have hz':z≠.n:=fun e=>by rw[bd hz e]at hl;simp at hl;rw[hl]at hlt;simp at hlt
  have hzq':zq≠.n:=fun e=>by rw[bd hzq e]at hlt;simp at hlt
  have e4:=wIs i (by omega)
  have hs:=MV hx hy;have hmb:=Oh (p.take i) (q.take i);rw[En]at hmb;generalize Ls (p.take i) (q.take i)=m at hs hmb ⊢;by_cases hxy:x=y
  ·rw[DZ hxy]at hs
   have h1:(x != y)=false:=by simp[hxy]
   repeat with_reducible first|refine nz aa ?_|apply ny;simp only[f38,hx',hy',hlt',hz',hzq',e4,h1,hcf,hcp,go_sem];rfl
   refine ak.t 1 [10,9,8,5,2] hlt (by simp only[aF,dX,go_sem]) (by rw[hs];rfl)
  ·rw[D5 hxy]at hs
   have h1:(x != y)=true:=by simp[hxy]
   have e5:=wIs m (by omega)
   repeat with_reducible first|refine nz aa ?_|apply ny;simp only[f38,hx',hy',hlt',hz',hzq',e4,e5,h1,hcf,hcp,go_sem];rfl
   refine ak.t 1 [10,9,8,5,2] hlt (by simp only[aF,dX,go_sem]) (by rw[hs];rfl)
 ·have hlt':¬(i:Int)<q.length:=by omega
  have e:Ls (p.take i) (q.take i)=Ls p q:=by
   rw[EQ (by omega:q.length<=i)]
   unfold Ls
   congr 2
   have:i=q.length:=by omega
   subst this;have h1:(p.take q.length).zip q=(p.zip q):=by
    have hg:∀(a b:List Int),(a.take b.length).zip b=a.zip b:=by
     intro a;induction a with
     |nil=>intro b;simp
     |cons x a ih=>intro b;cases b with
      |nil=>simp
      |cons y b=>rw[Ek,Lk,Gs,Gs,ih]
    exact hg p q
   exact h1
  rw[e];repeat with_reducible first|refine nz aa ?_|apply ny;simp only[f38,hlt',go_sem];rfl
  exact⟨rfl,rfl,_,rfl,rfl⟩
theorem Mq{l:List Int}{i:Nat}{x:Int}(h:l[i]?=some x):zF (l.take (i+1))=zF (l.take i)+x:=by
 rw[Ev,h];have hg:∀a:List Int,zF (a++[x])=zF a+x:=by
  intro a;induction a with
  |nil=>show x+0=0+x;omega
  |cons y a ih=>show y+zF (a++[x])=y+zF a+x;rw[ih];omega
 exact hg _
theorem L0:∀{l:List Int},(∀x∈l,0<=x∧x<=1000)->0<=zF l∧zF l<=1000*l.length
 |[],_=>⟨EN 0,EN 0⟩
 |x::l,h=>by
  have h1:=h x DV;have h2:=L0 fun y hy=>h y (DW _ hy)
  rw[Ek];show 0<=x+zF l∧x+zF l<=_;omega
theorem sum_82(z:Z)(l:List Int)(hz:zOk z (l.map ii)=true)(hn:l.length<=1000)(hl:∀x∈l,0<=x∧x<=1000):ab prog 82 [.sl z (l.map ii)] [] (.ret (ii (zF l))) []:=by
 refine ab.of0 hTT func82 rfl rfl ?_;have h0:zF (l.take 0)=0:=rfl;repeat with_reducible first|refine nz aa ?_|apply ny;simp only[f82,go_sem];rfl
 refine am.keep [8,7,6,3] (by simp only[go_sem];rfl) ?_
 refine am.loop (fun i s'=>s'=⟨[(8,ii (i:Nat)),(7,ii (l.length:Nat)),(6,.sl z (l.map ii)),(3,ii (zF (l.take i)))],17,[]⟩) l.length (by first|(simp only[h0,go_sem];first|done|rfl)|rfl) ?_
 rintro i _ hi rfl;by_cases hlt:i<l.length
 ·obtain⟨x,hx⟩:=gex hlt
  have hx':(l.map ii)[i]?=some (ii x):=aw hx;have hlt':(i:Int)<l.length:=by omega
  have hz':z≠.n:=fun e=>by rw[bd hz e]at hlt;simp at hlt
  have e4:=wIs i (by omega)
  have hs:=Mq hx;have hb:=L0 (l:=l.take i) fun y hy=>hl y (Ey hy)
  have hxb:=hl x (DU hx);rw[En]at hb;generalize zF (l.take i)=m at hs hb ⊢;have e5:IntKind.i64.wrap (m+x)=m+x:=ai (by omega) (by omega)
  repeat with_reducible first|refine nz aa ?_|apply ny;simp only[f82,hx',hlt',hz',e4,e5,go_sem];rfl
  refine ak.t 0 [8,7,6,3] hlt (by simp only[aF,go_sem]) (by first|(simp only[hs,go_sem];first|done|rfl)|rfl)
 ·have hlt':¬(i:Int)<l.length:=by omega
  have e:l.take i=l:=EQ (by omega)
  rw[e];repeat with_reducible first|refine nz aa ?_|apply ny;simp only[f82,hlt',go_sem];rfl
  exact⟨rfl,rfl,_,rfl,rfl⟩
def MG(fs:List Fg)(p:List Int)(n:Int)(i:Nat):List Int:=x4 (fs.take i) (p.take i) n
theorem MS{fs:List Fg}{p:List Int}{n:Int}{i:Nat}{f:Fg}{x:Int}(hf:fs[i]?=some f)(hx:p[i]?=some x):MG fs p n (i+1)=MG fs p n i++(if x=n then[f.size]else[]):=by
 have hi:=(DR.1 hf).1;have hj:=(DR.1 hx).1;unfold MG x4;rw[Ev,Ev,hf,hx]
 show(((fs.take i++[f]).zip (p.take i++[x])).filter _).map _=_
 rw[List.zip_append (by rw[En,En];omega),Ft,Ec]
 congr 1
 by_cases h:x=n
 ·rw[DZ h];subst h;simp
 ·rw[D5 h];simp[h]
theorem NI(fs:List Fg)(p:List Int)(n:Int)(i:Nat):(MG fs p n i).length<=i:=by
 unfold MG x4;rw[DX];have h1:=Fh (fun x:Fg×Int=>decide (x.2=n)) ((fs.take i).zip (p.take i))
 rw[List.length_zip,En]at h1;omega
theorem MC{fs:List Fg}{p:List Int}{n s:Int}(h:s∈x4 fs p n):∃f∈fs,f.size=s:=by
 unfold x4 at h;obtain⟨x,hx,rfl⟩:=Ex.1 h;exact⟨x.1,(List.of_mem_zip (Gd.1 hx).1).1,rfl⟩
theorem layer_83(c:Ch)(z:Z)(p:List Int)(n:Int)(hok:c.ok=true)(hz:zOk z (p.map ii)=true)(hl:p.length=c.fs.length)(hn:p.length<=1000):
 ab prog 83 [.agg (pkC c z p),ii n] [] (.ret (pvN (x4 c.fs p n))) []:=by
 refine ab.ofF hTT func83 rfl rfl ?_;have hcf:=cY c.fs;have hcp:=cV p;have h0:MG c.fs p n 0=[]:=rfl;repeat with_reducible first|refine nz aa ?_|apply ny;simp only[f83,hcf,hcp,go_sem];rfl
 refine am.keep [12,11,10,5,2,1] (by simp only[go_sem];rfl) ?_
 refine am.nilRow 5 3 1 (by simp only[go_sem]) (by simp only[go_sem];rfl) (by simp only[go_sem];rfl) ?_
 refine am.loop (fun i s'=>s'=⟨[(12,ii (i:Nat)),(11,ii (c.fs.length:Nat)),(10,.sl c.zf (c.fs.map dr)),(5,.ms 1 (MG c.fs p n i).length),(2,.bp 0 0),(1,ii n)],31,[.var (pkC c z p) false,.row (MG c.fs p n i).isEmpty 3 1 ((MG c.fs p n i).map ii) false]⟩) c.fs.length (by first|(simp only[h0,go_sem];first|done|rfl)|rfl) ?_
 rintro i _ hi rfl;by_cases hlt:i<c.fs.length
 ·obtain⟨f,hf⟩:=gex hlt
  obtain⟨x,hx⟩:∃x,p[i]?=some x:=⟨_,DT (by omega)⟩
  have hf':(c.fs.map dr)[i]?=some (.agg [ii f.size,ii f.rank,ii f.eve]):=aw hf;have hx':(p.map ii)[i]?=some (ii x):=aw hx;have hlt':(i:Int)<c.fs.length:=by omega
  have hz':z≠.n:=fun e=>by rw[bd hz e]at hl;simp at hl;omega
  have hzf':c.zf≠.n:=fun e=>by rw[bd hok e]at hlt;simp at hlt
  have e4:=wIs i (by omega)
  have hs:=MS (n:=n) hf hx;have hA:=NI c.fs p n i;generalize MG c.fs p n i=A at hs hA ⊢;by_cases hxn:x=n
  ·rw[DZ hxn]at hs
   have h1:(x==n)=true:=by simp[hxn]
   have hE:(A++[f.size]).isEmpty=false:=by simp
   have hL:(A++[f.size]).length=A.length+1:=by simp
   have q1:(A.length+1)*8<=140737488355328:=by omega
   have q2:A.length+1<=maxLen:=by unfold maxLen;omega
   repeat with_reducible first|refine nz aa ?_|apply ny;simp only[f83,hx',hf',hlt',hz',hzf',e4,h1,q1,q2,hcf,hcp,go_sem];rfl
   refine ak.t 2 [12,11,10,5,2,1] hlt (by simp only[aF,dX,bJ,go_sem]) (by rw[hs,hE,hL];simp only[Ec,go_sem])
  ·rw[D5 hxn,Er]at hs
   have h1:(x==n)=false:=by simp[hxn]
   repeat with_reducible first|refine nz aa ?_|apply ny;simp only[f83,hx',hf',hlt',hz',hzf',e4,h1,hcf,hcp,go_sem];rfl
   refine ak.t 2 [12,11,10,5,2,1] hlt (by simp only[aF,dX,bJ,go_sem]) (by rw[hs];first|(simp only[go_sem];first|done|rfl)|rfl)
 ·have hlt':¬(i:Int)<c.fs.length:=by omega
  have e:MG c.fs p n i=x4 c.fs p n:=by unfold MG;rw[EQ (by omega),EQ (by omega)]
  rw[e];repeat with_reducible first|refine nz aa ?_|apply ny;simp only[f83,hlt',go_sem];rfl
  exact⟨rfl,rfl,_,rfl,leave_row (id:=1) rfl (cV _) (by rw[DX])⟩
theorem down_80(f:Fg)(hr:-1000<=f.rank∧f.rank<=1000):ab prog 80 [dr f] [] (.ret (ii (-f.rank))) []:=by
 refine ab.of0 hTT func80 rfl rfl ?_;have he:dr f=.agg [ii f.size,ii f.rank,ii f.eve]:=rfl;rw[he];have e1:IntKind.i64.wrap (0-f.rank) = -f.rank:=by rw[Int.zero_sub];exact ai (by omega) (by omega)
 repeat with_reducible first|refine nz aa ?_|apply ny;simp only[f80,e1,go_sem];rfl
 exact⟨rfl,rfl,_,rfl,rfl⟩
theorem eve_81(f:Fg):ab prog 81 [dr f] [] (.ret (ii f.eve)) []:=by
 refine ab.of0 hTT func81 rfl rfl ?_;have he:dr f=.agg [ii f.size,ii f.rank,ii f.eve]:=rfl;rw[he];repeat with_reducible first|refine nz aa ?_|apply ny;simp only[f81,go_sem];rfl
 exact⟨rfl,rfl,_,rfl,rfl⟩
theorem ab.ex0{P:Program}{T:TypeId->TyI}(hT:TyT P T){f:FuncId}{fn:Func}{c:Code}{args:List PV}{n0:Nat}{α:Type}(V:α->PV)(hf:P.funcs[f]?=some fn)(hb:fn.body=some c)(hn0:n0=args.length+(fn.ntmps-args.length))
 (hrun:am P c ⟨ik 0 args,n0,[]⟩ (fun o st'=>o.ends=true∧aR [] st'.sg=true∧∃v',si T st' fn.results=some v'∧∃x,gB 0 v' st'.sg=(V x,[]))):∃x,ab P f args [] (.ret (V x)) []:=by
 obtain⟨o,st',hr,h1,h2,v',h3,x,h4⟩:=hrun;exact⟨x,ab.of0 hT hf hb hn0 ⟨o,st',hr,h1,h2,v',h3,h4⟩⟩
def vB(kf:Fg->Int)(x y:Fg×Int):Bool:=decide (x.2<y.2)&&decide (kf y.1<kf x.1)
def rowV(kf:Fg->Int)(x:Fg×Int)(l:List (Fg×Int)):Bool:=l.any (vB kf x)
def ML(kf:Fg->Int)(z l:List (Fg×Int)):Bool:=l.any fun x=>rowV kf x z
def LV(i:Nat)(f:Fg):Int:=if i=0 then -f.rank else f.eve
theorem Nn(z:List (Fg×Int)):LY z=(ML (LV 0) z z||ML (LV 1) z z):=by
 rw[FD,Fk,LR];unfold ML rowV vB LV;simp only[List.any_eq_true,D3,Eo,DZ,D5 (show ¬(1:Nat)=0 by decide)]
 constructor
 ·rintro⟨x,hx,y,hy,h1,h2|h2⟩
  ·exact .inl ⟨x,hx,y,hy,h1,by omega⟩
  ·exact .inr ⟨x,hx,y,hy,h1,h2⟩
 ·rintro(⟨x,hx,y,hy,h1,h2⟩|⟨x,hx,y,hy,h1,h2⟩)
  ·exact⟨x,hx,y,hy,h1,.inl (by omega)⟩
  ·exact⟨x,hx,y,hy,h1,.inr h2⟩
def Mm(z:List (Fg×Int))(i:Nat):Bool:=if i=0 then(ML (LV 0) z z||ML (LV 1) z z)else if i=1 then ML (LV 1) z z else false
theorem Mr(z:List (Fg×Int)){i:Nat}(h:i<2):Mm z i=(ML (LV i) z z||Mm z (i+1)):=by
 have:i=0∨i=1:=by omega
 rcases this with rfl|rfl
 ·rfl
 ·unfold Mm;simp
theorem L2{α:Type}{p:α->Bool}{l:List α}{i:Nat}{x:α}(h:l[i]?=some x):(l.drop i).any p=(p x||(l.drop (i+1)).any p):=by rw[aP h,GG]
theorem Mu{α:Type}{p:α->Bool}{l:List α}{i:Nat}(h:l.length<=i):(l.drop i).any p=false:=by rw[Ef h];rfl
theorem L4{α β:Type}{l:List α}{p:List β}{i:Nat}{a:α}{b:β}(h:l[i]?=some a)(k:p[i]?=some b):(l.zip p)[i]?=some (a,b):=by
 rw[List.getElem?_zip_eq_some];exact⟨h,k⟩
def cKey(kf:Fg->Int):List PV->List Box->Option (PRes×List Box)
 |[v],sg=>match LH v with
  |some f=>if -1000<=f.rank∧f.rank<=1000 then some (.ret (ii (kf f)),sg)else none
  |none=>none
 |_,_=>none
theorem N0{g:FuncId}{kf:Fg->Int}(he:bC prog g)(h:∀f:Fg,-1000<=f.rank∧f.rank<=1000->ab prog g [dr f] [] (.ret (ii (kf f))) []):dU prog g (cKey kf):=dU.of0 he fun args sg r sg' e=>by
 unfold cKey at e;split at e <;> try (cases e;done)
 split at e <;> try (cases e;done)
 rename_i h1;split at e <;> cases e
 rename_i hc;obtain rfl:=Lr _ _ h1;exact⟨_,rfl,rfl,rfl,h _ hc⟩
def dV(d:Bool)(x:Int×Int×Int):PV:=.tuple [.agg [ii x.1,ii x.2.1,ii x.2.2],.bool d]
theorem L9(c:Ch)(z:Z)(p:List Int)(hok:c.ok=true)(hz:zOk z (p.map ii)=true)(hl:p.length=c.fs.length)(hn:p.length<=1000)(hr:∀f∈c.fs,-1000<=f.rank∧f.rank<=1000):
 ∃x,ab prog 60 [.agg (pkC c z p)] [] (.ret (dV (LY (c.fs.zip p)) x)) []:=by
 refine ab.ex0 hTT (dV (LY (c.fs.zip p))) func60 rfl rfl ?_;have hcf:=cY c.fs;have hcp:=cV p;have hd0:LY (c.fs.zip p)=Mm (c.fs.zip p) 0:=Nn _;generalize LY (c.fs.zip p)=d at hd0 ⊢;generalize hZ:c.fs.zip p=zz at hd0 ⊢;have hzl:zz.length=c.fs.length:=by rw[←hZ,List.length_zip];omega
 repeat with_reducible first|refine nz aa ?_|apply ny;simp only[f60,hcf,hcp,go_sem];rfl
 refine am.keep [11,10,3,2,1] (by simp only[go_sem];rfl) ?_
 refine am.loop (fun i s'=>d=Mm zz i∧s'=⟨[(11,ii (i:Nat)),(10,.agg [.fn (.func 80) [] [],.fn (.func 81) [] []]),(3,.bool false),(2,.bp 1 0),(1,.bp 0 0)],64,[.var (pkC c z p) false,.var [ii 0,ii 0,ii 0] false]⟩) 2 ⟨hd0,by first|(simp only[go_sem];first|done|rfl)|rfl⟩ ?_
 rintro i _ hi ⟨hd,rfl⟩;by_cases hi2:i<2
 ·have hi2':(i:Int)<2:=by omega
  obtain⟨g,hg,hgc⟩:∃g,([PV.fn (.func 80) [] [],.fn (.func 81) [] []]:List PV)[i]?=some (.fn (.func g) [] [])∧dU prog g (cKey (LV i)):=by
   have:i=0∨i=1:=by omega
   rcases this with rfl|rfl
   ·exact⟨80,rfl,N0 (ent func80 rfl) fun f hf=>down_80 f hf⟩
   ·exact⟨81,rfl,N0 (ent func81 rfl) fun f _=>eve_81 f⟩
  have ei:=wIs i (by omega)
  have e3:IntKind.i64.wrap (3+(i:Int))=3+(i:Int):=ai (by omega) (by omega)
  rw[Mr zz hi2]at hd;generalize hLt:Mm zz (i+1)=later at hd;generalize LV i=kf at hd hgc;repeat with_reducible first|refine nz aa ?_|apply ny;simp only[f60,hi2',hg,hcf,hcp,go_sem];rfl
  refine am.keep [19,18,17,5,4,11,10,3,2,1] (by simp only[go_sem];rfl) ?_
  refine am.loop (fun a s'=>d=(ML kf zz (zz.drop a)||later)∧s'=⟨[(19,ii (a:Nat)),(18,ii (c.fs.length:Nat)),(17,.sl c.zf (c.fs.map dr)),(5,.fn (.func g) [] []),(4,ii (i:Nat)),(11,ii (i:Nat)),(10,.agg [.fn (.func 80) [] [],.fn (.func 81) [] []]),(3,.bool false),(2,.bp 1 0),(1,.bp 0 0)],64,[.var (pkC c z p) false,.var [ii 0,ii 0,ii 0] false]⟩) c.fs.length ⟨hd,by first|(simp only[go_sem];first|done|rfl)|rfl⟩ ?_
  clear hd;rintro a _ ha ⟨hd,rfl⟩;by_cases hal:a<c.fs.length
  ·obtain⟨f,hf⟩:=gex hal
   obtain⟨x,hx⟩:∃x,p[a]?=some x:=⟨_,DT (by omega)⟩
   have hf':(c.fs.map dr)[a]?=some (.agg [ii f.size,ii f.rank,ii f.eve]):=aw hf;have hx':(p.map ii)[a]?=some (ii x):=aw hx;have hzg:zz[a]?=some (f,x):=by rw[←hZ];exact L4 hf hx
   have hal':(a:Int)<c.fs.length:=by omega
   have hz':z≠.n:=fun e=>by rw[bd hz e]at hl;simp at hl;omega
   have hzf':c.zf≠.n:=fun e=>by rw[bd hok e]at hal;simp at hal
   have ea:=wIs a (by omega)
   have hfr:=hr f (DU hf);have hdf:LH (.agg [ii f.size,ii f.rank,ii f.eve])=some f:=rfl;unfold ML at hd;rw[L2 hzg]at hd;have hd:d=(rowV kf (f,x) zz||(ML kf zz (zz.drop (a+1))||later)):=by rw[hd,Bool.or_assoc];rfl
   generalize hLa:(ML kf zz (zz.drop (a+1))||later)=latA at hd;repeat with_reducible first|refine nz aa ?_|apply ny;simp only[f60,hal',hf',hzf',hcf,hcp,go_sem];rfl
   refine am.keep [28,27,26,6,7,19,18,17,5,4,11,10,3,2,1] (by simp only[go_sem];rfl) ?_
   refine am.loop (fun b s'=>d=((zz.drop b).any (vB kf (f,x))||latA)∧s'=⟨[(28,ii (b:Nat)),(27,ii (c.fs.length:Nat)),(26,.sl c.zf (c.fs.map dr)),(6,ii (a:Nat)),(7,.bp 2 0),(19,ii (a:Nat)),(18,ii (c.fs.length:Nat)),(17,.sl c.zf (c.fs.map dr)),(5,.fn (.func g) [] []),(4,ii (i:Nat)),(11,ii (i:Nat)),(10,.agg [.fn (.func 80) [] [],.fn (.func 81) [] []]),(3,.bool false),(2,.bp 1 0),(1,.bp 0 0)],64,[.var (pkC c z p) false,.var [ii 0,ii 0,ii 0] false,.var [ii f.size,ii f.rank,ii f.eve] false]⟩) c.fs.length ⟨hd,by first|(simp only[go_sem];first|done|rfl)|rfl⟩ ?_
   clear hd;rintro b _ hb ⟨hd,rfl⟩;by_cases hbl:b<c.fs.length
   ·obtain⟨f2,hf2⟩:∃f,c.fs[b]?=some f:=⟨_,DT hbl⟩
    obtain⟨y,hy⟩:∃x,p[b]?=some x:=⟨_,DT (by omega)⟩
    have hf2':(c.fs.map dr)[b]?=some (.agg [ii f2.size,ii f2.rank,ii f2.eve]):=aw hf2;have hy':(p.map ii)[b]?=some (ii y):=aw hy;have hzb:zz[b]?=some (f2,y):=by rw[←hZ];exact L4 hf2 hy
    have hbl':(b:Int)<c.fs.length:=by omega
    have eb:=wIs b (by omega)
    have hfr2:=hr f2 (DU hf2);have hdf2:LH (.agg [ii f2.size,ii f2.rank,ii f2.eve])=some f2:=rfl;rw[L2 hzb,Bool.or_assoc]at hd;by_cases hxy:x<y
    ·by_cases hk:kf f2<kf f
     ·have hv:vB kf (f,x) (f2,y)=true:=by unfold vB;simp[hxy,hk]
      rw[hv,Bool.true_or]at hd;repeat with_reducible first|refine nz (ah aa hgc) ?_|apply ny;simp only[f60,aE,cKey,hbl',hf2',hzf',hz',hx',hy',hxy,hk,hdf,hdf2,hfr,hfr2,EW,e3,hcf,hcp,go_sem];rfl
      exact⟨rfl,rfl,_,rfl,(3+(i:Int),(a:Int),(b:Int)),by rw[hd];rfl⟩
     ·have hv:vB kf (f,x) (f2,y)=false:=by unfold vB;simp[hk]
      rw[hv,IS]at hd;repeat with_reducible first|refine nz (ah aa hgc) ?_|apply ny;simp only[f60,aE,cKey,hbl',hf2',hzf',hz',hx',hy',hxy,hk,hdf,hdf2,hfr,hfr2,EW,eb,hcf,hcp,go_sem];rfl
      refine ak.t 3 [28,27,26,6,7,19,18,17,5,4,11,10,3,2,1] hbl (by simp only[aF,dX,go_sem]) ⟨hd,rfl⟩
    ·have hv:vB kf (f,x) (f2,y)=false:=by unfold vB;simp[hxy]
     rw[hv,IS]at hd;repeat with_reducible first|refine nz aa ?_|apply ny;simp only[f60,hbl',hf2',hzf',hz',hx',hy',hxy,eb,hcf,hcp,go_sem];rfl
     refine ak.t 3 [28,27,26,6,7,19,18,17,5,4,11,10,3,2,1] hbl (by simp only[aF,dX,go_sem]) ⟨hd,rfl⟩
   ·have hbl':¬(b:Int)<c.fs.length:=by omega
    rw[Mu (by omega),IS]at hd
    repeat with_reducible first|refine nz aa ?_|apply ny;simp only[f60,hbl',ea,go_sem];rfl
    refine ak.t 2 [19,18,17,5,4,11,10,3,2,1] hal (by simp only[aF,dX,go_sem]) ⟨by rw[hd,hLa],rfl⟩
  ·have hal':¬(a:Int)<c.fs.length:=by omega
   have hd:d=later:=by rw[hd];unfold ML;rw[Mu (by omega),IS]
   repeat with_reducible first|refine nz aa ?_|apply ny;simp only[f60,hal',ei,go_sem];rfl
   refine ak.t 2 [11,10,3,2,1] hi2 (by simp only[aF,dX,go_sem]) ⟨by rw[hd,hLt],rfl⟩
 ·have hi2':¬(i:Int)<2:=by omega
  have hd:d=false:=by rw[hd,show i=2 by omega];rfl
  repeat with_reducible first|refine nz aa ?_|apply ny;simp only[f60,hi2',go_sem];rfl
  exact⟨rfl,rfl,_,rfl,(0,0,0),by rw[hd];rfl⟩
theorem F1{α:Type}{p:α->Bool}{l:List α}{i:Nat}{x:α}(h:l[i]?=some x):(l.drop i).all p=(p x&&(l.drop (i+1)).all p):=by rw[aP h,Fv]
theorem Ln{α:Type}{p:α->Bool}{l:List α}{i:Nat}(h:l.length<=i):(l.drop i).all p=true:=by rw[Ef h];rfl
theorem Lz{n i:Nat}(h:i<n):(List.range n)[i]?=some i:=by rw[List.getElem?_range h]
theorem fault_62(c:Ch)(z:Z)(p:List Int)(hok:c.ok=true)(hz:zOk z (p.map ii)=true)(hl:p.length=c.fs.length)(hn:p.length<=1000)(hp:∀x∈p,-1000<=x∧x<=1000)
 (hr:∀f∈c.fs,-1000<=f.rank∧f.rank<=1000) (hs:∀f∈c.fs,0<=f.size∧f.size<=1000) (hd:0<=c.depth∧c.depth<=1000) :
 ∃x,ab prog 62 [.agg (pkC c z p)] [] (.ret (dV (!rightB c.room c.depth c.fs p) x)) []:=by
 refine ab.ex0 hTT (dV (!rightB c.room c.depth c.fs p)) func62 rfl rfl ?_;have hcf:=cY c.fs;have hcp:=cV p;obtain⟨x60,h60⟩:=L9 c z p hok hz hl hn hr;have h32:=MJ c z p hz hn hp;have hlb:=Mw (p:=p) (m:=0) (EN 0) (by omega) hp
 have hlb:0<=g4 p∧g4 p<=1001:=hlb;have hbt:bD 0 [PV.agg (pkC c z p)]=true:=ae 0 _ (by simp[ad,PV.closed,cY,cV])
 have hbt2:∀n:Int,bD 0 [PV.agg (pkC c z p),ii n]=true:=fun n=>ae 0 _ (by simp[ad,PV.closed,cY,cV])
 have h83:=fun n:Int=>layer_83 c z p n hok hz hl hn
 have hbd:∀n:Int,(x4 c.fs p n).length<=1000∧∀s∈x4 c.fs p n,0<=s∧s<=1000:=fun n=>by
  refine⟨?_,fun s h=>?_⟩
  ·unfold x4
   rw[DX];have h1:=Fh (fun x:Fg×Int=>decide (x.2=n)) (c.fs.zip p)
   rw[List.length_zip]at h1;omega
  ·obtain⟨f,hf,rfl⟩:=MC h
   exact hs f hf
 have hd0:(!rightB c.room c.depth c.fs p)=!((((List.range c.depth.toNat).drop 0).all fun n=>decide (zF (x4 c.fs p (n:Nat))<=c.room))&&(((List.range (g4 p).toNat).all fun n=>decide ((x4 c.fs p (n:Nat)).length≠0))&&!LY (c.fs.zip p))):=by
  unfold rightB;rw[GS,ON]
 generalize (!rightB c.room c.depth c.fs p)=d at hd0 ⊢;generalize LY (c.fs.zip p)=dis at hd0 h60;have hgap:((List.range (g4 p).toNat).all fun n=>decide ((x4 c.fs p (n:Nat)).length≠0))=(((List.range (g4 p).toNat).drop 0).all fun n=>decide ((x4 c.fs p (n:Nat)).length≠0)):=rfl
 generalize hG:((List.range (g4 p).toNat).all fun n=>decide ((x4 c.fs p (n:Nat)).length≠0))=gap at hd0 hgap
 obtain⟨D,hD⟩:∃D:Nat,c.depth=D:=⟨c.depth.toNat,by omega⟩
 obtain⟨K,hK⟩:∃K:Nat,g4 p=K:=⟨(g4 p).toNat,by omega⟩
 have hDn:c.depth.toNat=D:=by omega
 have hKn:(g4 p).toNat=K:=by omega
 rw[hDn]at hd0;rw[hKn]at hgap;rw[hK]at h32;repeat with_reducible first|refine nz aa ?_|apply ny;simp only[f62,hcf,hcp,go_sem];rfl
 refine am.keep [9,8,3,2,1] (by simp only[go_sem];rfl) ?_
 refine am.loop (fun i s'=>d=(!((((List.range D).drop i).all fun n=>decide (zF (x4 c.fs p (n:Nat))<=c.room))&&(gap&&!dis)))∧s'=⟨[(9,ii (i:Nat)),(8,ii c.depth),(3,.bool false),(2,.bp 1 0),(1,.bp 0 0)],40,[.var (pkC c z p) false,.var [ii 0,ii 0,ii 0] false]⟩) D ⟨hd0,by first|(simp only[go_sem];first|done|rfl)|rfl⟩ ?_
 clear hd0;rintro i _ hi ⟨hd1,rfl⟩;by_cases hlt:i<D
 ·have hlt':(i:Int)<c.depth:=by omega
  have ei:=wIs i (by omega)
  rw[F1 (Lz hlt)]at hd1;have h83:=h83 (i:Int);have hbt2:=hbt2 (i:Int);obtain⟨hb1,hb2⟩:=hbd (i:Int);obtain⟨zl,ez,hzl⟩:=LJ (x4 c.fs p (i:Int));rw[ez]at h83;have h82:=sum_82 zl _ hzl hb1 hb2;have hcl:=cV (x4 c.fs p (i:Int));have hbt3:bD 0 [PV.sl zl ((x4 c.fs p (i:Int)).map ii)]=true:=ae 0 _ (by simp[ad,PV.closed,cV])
  generalize zF (x4 c.fs p (i:Int))=sm at hd1 h82;generalize (x4 c.fs p (i:Int)).map ii=L at h83 h82 hcl hbt3;by_cases hsm:sm<=c.room
  ·have hsm':¬c.room<sm:=by omega
   rw[Ej hsm,EJ]at hd1;cases L with
   |nil =>
    repeat with_reducible first|refine nz (aj (aj aa (ent func83 rfl) h83 hbt2) (ent func82 rfl) h82 hbt3) ?_|apply ny;simp only[f62,eA,hlt',hsm',ei,EW,hcf,hcp,hcl,go_sem];rfl
    refine ak.t 2 [9,8,3,2,1] hlt (by simp only[aF,dX,go_sem]) ⟨hd1,rfl⟩
   |cons l0 lr =>
    obtain⟨hc0,hcr⟩:l0.closed=true∧ad lr=true:=by
     have:(l0.closed&&ad lr)=true:=hcl
     rwa [D3]at this
    repeat with_reducible first|refine nz (aj (aj aa (ent func83 rfl) h83 hbt2) (ent func82 rfl) h82 hbt3) ?_|apply ny;simp only[f62,eA,hlt',hsm',ei,EW,hcf,hcp,hc0,hcr,go_sem];rfl
    refine ak.t 2 [9,8,3,2,1] hlt (by simp only[aF,dX,go_sem]) ⟨hd1,rfl⟩
  ·have hsm':c.room<sm:=by omega
   rw[Ei hsm,Gj]at hd1;cases L with
   |nil =>
    repeat with_reducible first|refine nz (aj (aj aa (ent func83 rfl) h83 hbt2) (ent func82 rfl) h82 hbt3) ?_|apply ny;simp only[f62,eA,hlt',hsm',ei,EW,hcf,hcp,hcl,go_sem];rfl
    exact⟨rfl,rfl,_,rfl,(1,(i:Int),0),by rw[hd1];rfl⟩
   |cons l0 lr =>
    obtain⟨hc0,hcr⟩:l0.closed=true∧ad lr=true:=by
     have:(l0.closed&&ad lr)=true:=hcl
     rwa [D3]at this
    repeat with_reducible first|refine nz (aj (aj aa (ent func83 rfl) h83 hbt2) (ent func82 rfl) h82 hbt3) ?_|apply ny;simp only[f62,eA,hlt',hsm',ei,EW,hcf,hcp,hc0,hcr,go_sem];rfl
    exact⟨rfl,rfl,_,rfl,(1,(i:Int),0),by rw[hd1];rfl⟩
 ·have hlt':¬(i:Int)<c.depth:=by omega
  have hd1:d=(!(((((List.range K).drop 0).all fun n=>decide ((x4 c.fs p (n:Nat)).length≠0)))&&!dis)):=by
   rw[hd1,Ln (by simp;omega),EJ,←hgap]
  repeat with_reducible first|refine nz (aj aa (ent func32 rfl) h32 hbt) ?_|apply ny;simp only[f62,eA,hlt',hcf,hcp,go_sem];rfl
  refine am.keep [25,24,3,2,1] (by simp only[go_sem];rfl) ?_
  refine am.loop (fun j s'=>d=(!((((List.range K).drop j).all fun n=>decide ((x4 c.fs p (n:Nat)).length≠0))&&!dis))∧s'=⟨[(25,ii (j:Nat)),(24,ii (K:Nat)),(3,.bool false),(2,.bp 1 0),(1,.bp 0 0)],40,[.var (pkC c z p) false,.var [ii 0,ii 0,ii 0] false]⟩) K ⟨hd1,by first|(simp only[go_sem];first|done|rfl)|rfl⟩ ?_
  clear hd1;rintro j _ hj ⟨hd1,rfl⟩;by_cases hjl:j<K
  ·have hjl':(j:Int)<(K:Int):=by omega
   have ej:=wIs j (by omega)
   rw[F1 (Lz hjl)]at hd1;have h83:=h83 (j:Int);have hbt2:=hbt2 (j:Int);obtain⟨hb1,_⟩:=hbd (j:Int);obtain⟨zl,ez,hzl⟩:=LJ (x4 c.fs p (j:Int));rw[ez]at h83;have hcl:=cV (x4 c.fs p (j:Int));have hml:((x4 c.fs p (j:Int)).map ii).length=(x4 c.fs p (j:Int)).length:=DX ..;generalize (x4 c.fs p (j:Int)).map ii=L at h83 hcl hml;by_cases h0:(x4 c.fs p (j:Int)).length=0
   ·have hL0:L=[]:=Ew.1 (by omega)
    subst hL0;rw[Ei (by omega),Gj]at hd1
    repeat with_reducible first|refine nz (aj aa (ent func83 rfl) h83 hbt2) ?_|apply ny;simp only[f62,eA,hjl',hcf,hcp,hcl,go_sem];rfl
    exact⟨rfl,rfl,_,rfl,(2,(j:Int),0),by rw[hd1];rfl⟩
   ·have hL1:((L.length:Int)==0)=false:=by rw[EF];omega
    have hL2:L.length<=maxLen:=by unfold maxLen;omega
    rw[Ej h0,EJ]at hd1;repeat with_reducible first|refine nz (aj aa (ent func83 rfl) h83 hbt2) ?_|apply ny;simp only[f62,eA,hjl',hL1,hL2,ej,hcf,hcp,hcl,go_sem];rfl
    refine ak.t 2 [25,24,3,2,1] hjl (by simp only[aF,dX,go_sem]) ⟨hd1,rfl⟩
  ·have hjl':¬(j:Int)<(K:Int):=by omega
   have hd1:d=dis:=by rw[hd1,Ln (by simp;omega),EJ,Bool.not_not]
   repeat with_reducible first|refine nz (aj aa (ent func60 rfl) h60 hbt) ?_|apply ny;simp only[f62,eA,dV,hjl',hcf,hcp,go_sem];rfl
   exact⟨rfl,rfl,_,rfl,x60,by rw[hd1];rfl⟩
theorem Nw(c:Ch)(z:Z)(p:List Int)(hok:c.ok=true)(hz:zOk z (p.map ii)=true)(hl:p.length=c.fs.length)(hn:p.length<=1000)(hp:∀x∈p,-1000<=x∧x<=1000)
 (hr:∀f∈c.fs,-1000<=f.rank∧f.rank<=1000) (hs:∀f∈c.fs,0<=f.size∧f.size<=1000) (hd:0<=c.depth∧c.depth<=1000) :
 ab prog 35 [.agg (pkC c z p)] [] (.ret (.bool (rightB c.room c.depth c.fs p))) []:=by
 refine ab.of0 hTT func35 rfl rfl ?_;have hcf:=cY c.fs;have hcp:=cV p;obtain⟨x,h62⟩:=fault_62 c z p hok hz hl hn hp hr hs hd;have hbt:bD 0 [PV.agg (pkC c z p)]=true:=ae 0 _ (by simp[ad,PV.closed,cY,cV])
 generalize rightB c.room c.depth c.fs p=d at h62 ⊢;cases d
 all_goals
  repeat with_reducible first|refine nz (aj aa (ent func62 rfl) h62 hbt) ?_|apply ny;simp only[f35,eA,dV,hcf,hcp,go_sem];rfl
  exact⟨rfl,rfl,_,rfl,rfl⟩
end Go.Pv
