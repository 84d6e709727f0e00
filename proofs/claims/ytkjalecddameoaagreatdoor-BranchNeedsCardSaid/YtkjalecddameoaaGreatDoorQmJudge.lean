import Derived.Test.YtkjalecddameoaaGreatDoorQmVerd
set_option linter.all false
open Go.Proofs.Tryz
namespace Go.Pv
open Go Go.RowKit Go.Proofs
set_option maxRecDepth 200000
set_option maxHeartbeats 8000000
theorem BB(f:Sn->Int)(hf:∀x,f (nof x)=f x)(l:List Sn)(i:Nat):fV f (l.map nof) i=fV f l i:=by
 unfold fV;rw[Eh];cases l[i]? with
 |none=>rfl
 |some x=>exact hf x
theorem of_nof(l:List Sn)(c:List Nat)(k:Int):ofP (l.map nof) c k=ofP l c k:=by
 unfold ofP;apply IQ;intro i _;rw[Eh];cases l[i]? <;> rfl
theorem zO(f:Sn->Int)(hf:∀x,f (nof x)=f x)(l:List Sn)(c:List Nat):gu f (l.map nof) c=gu f l c:=by
 unfold gu
 congr 1
 exact EP fun i _=>BB f hf l i
theorem lo_nof(l:List Sn)(c:List Nat)(k:Int):loP (l.map nof) c k=loP l c k:=by unfold loP;rw[of_nof,zO _ fun _=>rfl]
theorem hi_nof(l:List Sn)(c:List Nat)(k:Int):hiP (l.map nof) c k=hiP l c k:=by unfold hiP;rw[of_nof,zO _ fun _=>rfl]
theorem Cm(n:Nt)(l:List Sn)(c:List Nat):lE n (l.map nof) c=lE n l c:=by
 unfold lE fwdB;simp only[lo_nof,hi_nof]
theorem ch_nof:∀(l:List Sn) (i:Nat) (c:List Nat),chB (l.map nof) i c=chB l i c
 |[],_,_=>rfl
 |x::l,i,c=>by
  rw[EE,chB,chB,ch_nof l (i+1) c];rfl
theorem cho_nof(l:List Sn):nO (l.map nof)=nO l:=by
 unfold nO;rw[DX];have:chB (l.map nof) 0=chB l 0:=funext fun c=>ch_nof l 0 c
 rw[this]
theorem Bk(n:Nt)(l:List Sn):qf n (l.map nof)=qf n l:=by
 unfold qf;rw[cho_nof,show lE n (l.map nof)=lE n l from funext fun c=>Cm n l c]
theorem vz(n:Nt)(l:List Sn):iL n (l.map nof)=iL n l:=by unfold iL;rw[Bk]
theorem yp(l:List Sn):bI (l.map nof)=bI l:=by
 unfold bI;rw[List.filter_map,DX];rfl
theorem xx:∀(l:List Sn) (p:Int),kK p (l.map nof)=kK p l
 |[],_=>rfl
 |x::l,p=>by
  rw[EE,kK,kK]
  show(_&&kK x.part (l.map nof))=_
  rw[xx l x.part];rfl
theorem oN(n:Nt)(l:List Sn):du n (l.map nof)=du n l:=by unfold du;rw[DX,xx,yp]
theorem CB(l:List Sn)(i:Nat)(k:Int):kQ (l.map nof) i k=(kQ l i k).map nof:=by
 unfold kQ;rw[Eh];cases h:l[i]? with
 |none=>rfl
 |some x=>show(l.map nof).set i _=(l.set i _).map nof;rw[Ga];rfl
theorem Bz(n:Nt)(l:List Sn)(c:List Nat)(i:Nat):∀m k,j7 n (l.map nof) c i m k=j7 n l c i m k
 |0,_=>rfl
 |m+1,k=>by rw[kl,kl,CB,Cm,Bz n l c i m (k+1)]
theorem long_nof(n:Nt)(l:List Sn)(c:List Nat)(i:Nat):Bf n (l.map nof) c i=Bf n l c i:=by
 unfold Bf;rw[BB _ fun _=>rfl,BB _ fun _=>rfl,Bz]
theorem Bj(n:Nt)(c:List Nat):∀(r:List Nat) (l:List Sn),re n c (l.map nof) r=re n c l r
 |[],_=>rfl
 |i::r,l=>by rw[re,re,long_nof,CB,Bj n c r]
theorem kr(n:Nt)(l:List Sn):eS (pM n l)=some (n,if decide (l.length=0)=true then .n else .a,l.map nof):=lY n _ l fun e=>by
 split at e
 ·rename_i h
  exact Ew.1 (Eu h)
 ·cases e
theorem qM(n:Nt)(l:List Sn):(pM n l).closed=true:=dY n _ l
structure Vd(s:Sty)(n:Nt)(p:List Int):Prop where
 ok:s.ok=true
 sc:ScOk s.sc
 sl:s.sc.length<=1000
 ev:evB n=true
 p1:1<=p.length
 p2:p.length<=10
 rg:∀x∈p,0<=x∧x<s.sc.length
theorem Vd.plan{s:Sty}{n:Nt}{p:List Int}(h:Vd s n p):du n (scn s.sc p)=un (scn s.sc p) :=
 plan_ord h.ev (scn_ok h.sc p) (by rw[ko h.rg];exact h.p1) (by rw[ko h.rg];exact h.p2)
theorem tJ(s:Sty)(n:Nt)(zp:Z)(p:List Int)(h:Vd s n p)(hzp:zOk zp (p.map ii)=true):ab prog 104 [.agg s.cells,.agg (ntC n),.sl zp (p.map ii)] [] (.ret (ii (cX n s.sc p))) []:=by
 refine ab.of0 hTT func104 rfl rfl ?_;have hp2:=h.p2;have h63:=ta s h.ok zp p hzp (by omega) h.sl
 have h64:=vL s h.ok h.sc zp p (bd hzp) h.rg (by omega)
 have h65:=wj s h.ok n zp p (bd hzp) h.rg (by omega)
 have hpl:=h.plan;have hdp:=kr n (scn s.sc p);have hcp:=qM n (scn s.sc p);have hln:=ko h.rg;have hb1:bD 0 [PV.agg s.cells,.sl zp (p.map ii)]=true:=ae 0 _ (by simp[ad,PV.closed,ap,ao,ac])
 have hb2:bD 0 [PV.agg s.cells,.agg (ntC n),.sl zp (p.map ii)]=true:=ae 0 _ (by simp[ad,PV.closed,ap,ao,ac])
 have hpn:=oN n (scn s.sc p);have hpo:=vz n (scn s.sc p);have hV:cX n s.sc p=if dT s.sc 0 p=false then 1 else if un (scn s.sc p)=false then 2 else if iL n (scn s.sc p)=false then 3 else 4:=rfl;generalize cX n s.sc p=V at hV ⊢;unfold pM at h65 hdp hcp;generalize scn s.sc p=L at *;obtain⟨e,zs,sc,zr,rz⟩:=s;dsimp only[Sty.cells]at h63 h64 h65 hb1 hb2 hV ⊢;cases hf:dT sc 0 p with
 |false =>
  rw[hf]at h63 hV;rw[DZ rfl]at hV;subst hV;repeat with_reducible first|refine nz (aj aa (ent func63 rfl) h63 hb1) ?_|apply ny;simp only[f104,eA,go_sem];rfl
  exact⟨rfl,rfl,_,rfl,rfl⟩
 |true =>
  rw[hf]at h63 hV;rw[D5 (by simp)]at hV
  repeat with_reducible first|(fail_if_success refine am.seq (x:=.region 3 _ _) ?_);(fail_if_success show am _ (.region 3 _ _) _ _);refine nz (aj aa (ent func63 rfl) h63 hb1) ?_|apply ny;simp only[f104,eA,go_sem];rfl
  cases ho:un L with
  |false =>
   rw[ho]at h64 hV;rw[DZ rfl]at hV;subst hV;repeat with_reducible first|refine nz (aj aa (ent func64 rfl) h64 hb1) ?_|apply ny;simp only[f104,eA,go_sem];rfl
   exact⟨rfl,rfl,_,rfl,rfl⟩
  |true =>
   rw[ho]at h64 hV hpl;rw[D5 (by simp)]at hV
   rw[hpl]at hpn;repeat with_reducible first|(fail_if_success refine am.seq (x:=.region 5 _ _) ?_);(fail_if_success show am _ (.region 5 _ _) _ _);refine nz (aj aa (ent func64 rfl) h64 hb1) ?_|apply ny;simp only[f104,eA,go_sem];rfl
   generalize (if decide (L.length=0)=true then Z.n else Z.a)=zL at h65 hdp hcp;have hcc:=ay L;cases hpb:iL n L with
   |false =>
    rw[hpb]at hpo hV;rw[DZ rfl]at hV;subst hV;repeat with_reducible first|refine nz (ah (aj aa (ent func65 rfl) h65 hb2) oR) ?_|apply ny;simp only[f104,eA,aE,c160,hdp,hcc,hpn,hpo,go_sem];rfl
    exact⟨rfl,rfl,_,rfl,rfl⟩
   |true =>
    rw[hpb]at hpo hV;rw[D5 (by simp)]at hV
    subst hV;repeat with_reducible first|refine nz (ah (aj aa (ent func65 rfl) h65 hb2) oR) ?_|apply ny;simp only[f104,eA,aE,c160,hdp,hcc,hpn,hpo,go_sem];rfl
    exact⟨rfl,rfl,_,rfl,rfl⟩
theorem wk(n:Nt)(l:List Sn):∃a b e,wh n l=.tuple [a,b,ii e]∧a.closed=true∧b.closed=true∧(e==0)=(du n l&&iL n l):=by
 unfold wh;cases du n l with
 |false=>exact⟨_,_,_,rfl,rfl,rfl,rfl⟩
 |true =>
  rw[DZ rfl];unfold iL;cases h:qf n l with
  |nil=>exact⟨_,_,_,rfl,rfl,rfl,by simp⟩
  |cons c C=>exact⟨_,_,_,rfl,aO c,ac _,by simp⟩
theorem xi(s:Sty)(n:Nt)(zp:Z)(p:List Int)(h:Vd s n p)(hzp:zOk zp (p.map ii)=true):ab prog 135 [.agg (sj s n zp p)] [] (.ret (.bool (un (scn s.sc p)))) []:=by
 refine ab.of0 hTT func135 rfl rfl ?_;have hp2:=h.p2;have h124:=u7 s h.ok n zp p (bd hzp) h.rg (by omega)
 have hpl:=h.plan;have hdp:=kr n (scn s.sc p);have hpn:=oN n (scn s.sc p);have hb:bD 0 [PV.agg (sj s n zp p)]=true:=ae 0 _ (by simp[ad,PV.closed,ap,ao,ac])
 unfold pM at h124 hdp;generalize scn s.sc p=L at *;have hcc:=ay L;generalize (if decide (L.length=0)=true then Z.n else Z.a)=zL at h124 hdp;rw[hpl]at hpn;cases ho:un L with
 |false =>
  rw[ho]at hpn;repeat with_reducible first|refine nz (ah (aj aa (ent func124 rfl) h124 hb) py) ?_|apply ny;simp only[f135,eA,aE,c158,hdp,hcc,hpn,go_sem];rfl
  exact⟨rfl,rfl,_,rfl,rfl⟩
 |true =>
  rw[ho]at hpn;repeat with_reducible first|refine nz (ah (aj aa (ent func124 rfl) h124 hb) py) ?_|apply ny;simp only[f135,eA,aE,c158,hdp,hcc,hpn,go_sem];rfl
  exact⟨rfl,rfl,_,rfl,rfl⟩
theorem rO(s:Sty)(n:Nt)(zp:Z)(p:List Int)(h:Vd s n p)(hzp:zOk zp (p.map ii)=true):ab prog 216 [.agg (sj s n zp p)] [] (.ret (.bool (un (scn s.sc p)&&iL n (scn s.sc p)))) []:=by
 refine ab.of0 hTT func216 rfl rfl ?_;have hp2:=h.p2;have h124:=u7 s h.ok n zp p (bd hzp) h.rg (by omega)
 have hpl:=h.plan;have hdp:=kr n (scn s.sc p);have hpn:=oN n (scn s.sc p);have hpo:=vz n (scn s.sc p);have hb:bD 0 [PV.agg (sj s n zp p)]=true:=ae 0 _ (by simp[ad,PV.closed,ap,ao,ac])
 obtain⟨a,b,e,hv,ha,hbb,he⟩:=wk n ((scn s.sc p).map nof);rw[hpn,hpo,hpl]at he;unfold pM at h124 hdp;generalize scn s.sc p=L at *;have hcc:=ay L;generalize (if decide (L.length=0)=true then Z.n else Z.a)=zL at h124 hdp;generalize (un L&&iL n L)=A at he ⊢;repeat with_reducible first|refine nz (ah (aj aa (ent func124 rfl) h124 hb) Bo) ?_|apply ny;simp only[f216,eA,aE,c76,hdp,hcc,hv,ha,hbb,he,go_sem];rfl
 exact⟨rfl,rfl,_,rfl,rfl⟩
theorem judge_ok(S:List PV)(hS:ad S=true)(h1:ab prog 134 [.agg S] [] (.ret (.bool true)) [])(h2:ab prog 135 [.agg S] [] (.ret (.bool true)) [])(h3:ab prog 216 [.agg S] [] (.ret (.bool true)) [])(hl:S.length=11):ab prog 159 [.agg S] [] (.ret (.tuple [])) []:=by
 refine ab.ofF hTT func159 rfl rfl ?_;have hb:bD 0 [PV.agg S]=true:=ae 0 _ (by simp[ad,PV.closed,hS])
 have hS2:bD 2 S=true:=ae 2 S hS;have htk:S.take 11=S:=by rw[←hl,Eg]
 have h11:11<=S.length:=by omega
 have u1:IntKind.i64.wrap 1=1:=rfl;have u2:IntKind.i64.wrap 2=2:=rfl;have u3:IntKind.i64.wrap 3=3:=rfl;repeat with_reducible first|refine nz aa ?_|apply ny;simp only[f159,htk,h11,bl,go_sem];rfl
 refine am.keep [13,12] (by simp only[go_sem];rfl) ?_
 obtain⟨ST,hST⟩:∃ST:Int->St,ST=fun i=>⟨[(13,ii i),(12,.agg [.fn (.func 134) [.agg S] [],.fn (.func 135) [.agg S] [],.fn (.func 216) [.agg S] []])],25,[.var S false,.var [.fn (.func 134) [.agg S] [],.fn (.func 135) [.agg S] [],.fn (.func 216) [.agg S] []] false]⟩:=⟨_,rfl⟩
 refine am.loop (fun i s'=>(i=0∧s'=ST 0)∨(i=1∧s'=ST 1)∨(i=2∧s'=ST 2)∨(i=3∧s'=ST 3)) 3 (.inl ⟨rfl,by rw[hST]⟩) ?_
 rintro i s' hi hI;subst hST;rcases hI with ⟨rfl,rfl⟩|⟨rfl,rfl⟩|⟨rfl,rfl⟩|⟨rfl,rfl⟩
 ·dsimp only
  have hlt:0<3:=by decide
  repeat with_reducible first|refine nz (aj (aj (aj aa (ent func216 rfl) h3 hb) (ent func135 rfl) h2 hb) (ent func134 rfl) h1 hb) ?_|apply ny;simp only[f159,eA,hS,u1,u2,u3,go_sem];rfl
  refine ak.t 2 [13,12] hlt (by simp only[hS2,go_sem]) (.inr (.inl ⟨rfl,by first|(simp only[go_sem];first|done|rfl)|rfl⟩))
 ·dsimp only
  have hlt:1<3:=by decide
  repeat with_reducible first|refine nz (aj (aj (aj aa (ent func216 rfl) h3 hb) (ent func135 rfl) h2 hb) (ent func134 rfl) h1 hb) ?_|apply ny;simp only[f159,eA,hS,u1,u2,u3,go_sem];rfl
  refine ak.t 2 [13,12] hlt (by simp only[hS2,go_sem]) (.inr (.inr (.inl ⟨rfl,by first|(simp only[go_sem];first|done|rfl)|rfl⟩)))
 ·dsimp only
  have hlt:2<3:=by decide
  repeat with_reducible first|refine nz (aj (aj (aj aa (ent func216 rfl) h3 hb) (ent func135 rfl) h2 hb) (ent func134 rfl) h1 hb) ?_|apply ny;simp only[f159,eA,hS,u1,u2,u3,go_sem];rfl
  refine ak.t 2 [13,12] hlt (by simp only[hS2,go_sem]) (.inr (.inr (.inr ⟨rfl,by first|(simp only[go_sem];first|done|rfl)|rfl⟩)))
 ·dsimp only
  repeat with_reducible first|refine nz aa ?_|apply ny;simp only[f159,go_sem];rfl
  exact⟨rfl,rfl,_,rfl,aq rfl⟩
theorem judge_1(S:List PV)(hS:ad S=true)(h1:ab prog 134 [.agg S] [] (.ret (.bool false)) [])(hl:S.length=11):ab prog 159 [.agg S] [] (.pan (.iface 221 (.agg [ii 1]))) []:=by
 refine ab.ofPan func159 rfl rfl ?_ (av (PV.iface 221 (.agg [ii 1])) rfl);have hb:bD 0 [PV.agg S]=true:=ae 0 _ (by simp[ad,PV.closed,hS])
 have hS2:bD 2 S=true:=ae 2 S hS;have htk:S.take 11=S:=by rw[←hl,Eg]
 have h11:11<=S.length:=by omega
 have u1:IntKind.i64.wrap 1=1:=rfl;have u2:IntKind.i64.wrap 2=2:=rfl;have u3:IntKind.i64.wrap 3=3:=rfl;repeat with_reducible first|refine nz aa ?_|apply ny;simp only[f159,htk,h11,bl,go_sem];rfl
 refine am.keep [13,12] (by simp only[go_sem];rfl) ?_
 obtain⟨ST,hST⟩:∃ST:Int->St,ST=fun i=>⟨[(13,ii i),(12,.agg [.fn (.func 134) [.agg S] [],.fn (.func 135) [.agg S] [],.fn (.func 216) [.agg S] []])],25,[.var S false,.var [.fn (.func 134) [.agg S] [],.fn (.func 135) [.agg S] [],.fn (.func 216) [.agg S] []] false]⟩:=⟨_,rfl⟩
 refine am.loop (fun i s'=>(i=0∧s'=ST 0)) 3 ⟨rfl,by rw[hST]⟩ ?_
 rintro i s' hi hI;subst hST;rcases hI with ⟨rfl,rfl⟩
 ·dsimp only
  repeat with_reducible first|refine nz (aj aa (ent func134 rfl) h1 hb) ?_|apply ny;simp only[f159,eA,hS,u1,u2,u3,TyD.ifc,go_sem];rfl
  refine lx.stop (v:=.iface 221 (.agg [ii 1])) (by simp only[go_sem];rfl) ?_
  repeat with_reducible first|refine nz aa ?_|apply ny;simp only[f159,go_sem];rfl
  exact⟨rfl,rfl⟩
theorem judge_2(S:List PV)(hS:ad S=true)(h1:ab prog 134 [.agg S] [] (.ret (.bool true)) [])(h2:ab prog 135 [.agg S] [] (.ret (.bool false)) [])(hl:S.length=11):ab prog 159 [.agg S] [] (.pan (.iface 221 (.agg [ii 2]))) []:=by
 refine ab.ofPan func159 rfl rfl ?_ (av (PV.iface 221 (.agg [ii 2])) rfl);have hb:bD 0 [PV.agg S]=true:=ae 0 _ (by simp[ad,PV.closed,hS])
 have hS2:bD 2 S=true:=ae 2 S hS;have htk:S.take 11=S:=by rw[←hl,Eg]
 have h11:11<=S.length:=by omega
 have u1:IntKind.i64.wrap 1=1:=rfl;have u2:IntKind.i64.wrap 2=2:=rfl;have u3:IntKind.i64.wrap 3=3:=rfl;repeat with_reducible first|refine nz aa ?_|apply ny;simp only[f159,htk,h11,bl,go_sem];rfl
 refine am.keep [13,12] (by simp only[go_sem];rfl) ?_
 obtain⟨ST,hST⟩:∃ST:Int->St,ST=fun i=>⟨[(13,ii i),(12,.agg [.fn (.func 134) [.agg S] [],.fn (.func 135) [.agg S] [],.fn (.func 216) [.agg S] []])],25,[.var S false,.var [.fn (.func 134) [.agg S] [],.fn (.func 135) [.agg S] [],.fn (.func 216) [.agg S] []] false]⟩:=⟨_,rfl⟩
 refine am.loop (fun i s'=>(i=0∧s'=ST 0)∨(i=1∧s'=ST 1)) 3 (.inl ⟨rfl,by rw[hST]⟩) ?_
 rintro i s' hi hI;subst hST;rcases hI with ⟨rfl,rfl⟩|⟨rfl,rfl⟩
 ·dsimp only
  have hlt:0<3:=by decide
  repeat with_reducible first|refine nz (aj (aj aa (ent func135 rfl) h2 hb) (ent func134 rfl) h1 hb) ?_|apply ny;simp only[f159,eA,hS,u1,u2,u3,go_sem];rfl
  refine ak.t 2 [13,12] hlt (by simp only[hS2,go_sem]) (.inr (⟨rfl,by first|(simp only[go_sem];first|done|rfl)|rfl⟩))
 ·dsimp only
  repeat with_reducible first|refine nz (aj (aj aa (ent func135 rfl) h2 hb) (ent func134 rfl) h1 hb) ?_|apply ny;simp only[f159,eA,hS,u1,u2,u3,TyD.ifc,go_sem];rfl
  refine lx.stop (v:=.iface 221 (.agg [ii 2])) (by simp only[go_sem];rfl) ?_
  repeat with_reducible first|refine nz aa ?_|apply ny;simp only[f159,go_sem];rfl
  exact⟨rfl,rfl⟩
theorem judge_3(S:List PV)(hS:ad S=true)(h1:ab prog 134 [.agg S] [] (.ret (.bool true)) [])(h2:ab prog 135 [.agg S] [] (.ret (.bool true)) [])(h3:ab prog 216 [.agg S] [] (.ret (.bool false)) [])(hl:S.length=11):ab prog 159 [.agg S] [] (.pan (.iface 221 (.agg [ii 3]))) []:=by
 refine ab.ofPan func159 rfl rfl ?_ (av (PV.iface 221 (.agg [ii 3])) rfl);have hb:bD 0 [PV.agg S]=true:=ae 0 _ (by simp[ad,PV.closed,hS])
 have hS2:bD 2 S=true:=ae 2 S hS;have htk:S.take 11=S:=by rw[←hl,Eg]
 have h11:11<=S.length:=by omega
 have u1:IntKind.i64.wrap 1=1:=rfl;have u2:IntKind.i64.wrap 2=2:=rfl;have u3:IntKind.i64.wrap 3=3:=rfl;repeat with_reducible first|refine nz aa ?_|apply ny;simp only[f159,htk,h11,bl,go_sem];rfl
 refine am.keep [13,12] (by simp only[go_sem];rfl) ?_
 obtain⟨ST,hST⟩:∃ST:Int->St,ST=fun i=>⟨[(13,ii i),(12,.agg [.fn (.func 134) [.agg S] [],.fn (.func 135) [.agg S] [],.fn (.func 216) [.agg S] []])],25,[.var S false,.var [.fn (.func 134) [.agg S] [],.fn (.func 135) [.agg S] [],.fn (.func 216) [.agg S] []] false]⟩:=⟨_,rfl⟩
 refine am.loop (fun i s'=>(i=0∧s'=ST 0)∨(i=1∧s'=ST 1)∨(i=2∧s'=ST 2)) 3 (.inl ⟨rfl,by rw[hST]⟩) ?_
 rintro i s' hi hI;subst hST;rcases hI with ⟨rfl,rfl⟩|⟨rfl,rfl⟩|⟨rfl,rfl⟩
 ·dsimp only
  have hlt:0<3:=by decide
  repeat with_reducible first|refine nz (aj (aj (aj aa (ent func216 rfl) h3 hb) (ent func135 rfl) h2 hb) (ent func134 rfl) h1 hb) ?_|apply ny;simp only[f159,eA,hS,u1,u2,u3,go_sem];rfl
  refine ak.t 2 [13,12] hlt (by simp only[hS2,go_sem]) (.inr (.inl ⟨rfl,by first|(simp only[go_sem];first|done|rfl)|rfl⟩))
 ·dsimp only
  have hlt:1<3:=by decide
  repeat with_reducible first|refine nz (aj (aj (aj aa (ent func216 rfl) h3 hb) (ent func135 rfl) h2 hb) (ent func134 rfl) h1 hb) ?_|apply ny;simp only[f159,eA,hS,u1,u2,u3,go_sem];rfl
  refine ak.t 2 [13,12] hlt (by simp only[hS2,go_sem]) (.inr (.inr (⟨rfl,by first|(simp only[go_sem];first|done|rfl)|rfl⟩)))
 ·dsimp only
  repeat with_reducible first|refine nz (aj (aj (aj aa (ent func216 rfl) h3 hb) (ent func135 rfl) h2 hb) (ent func134 rfl) h1 hb) ?_|apply ny;simp only[f159,eA,hS,u1,u2,u3,TyD.ifc,go_sem];rfl
  refine lx.stop (v:=.iface 221 (.agg [ii 3])) (by simp only[go_sem];rfl) ?_
  repeat with_reducible first|refine nz aa ?_|apply ny;simp only[f159,go_sem];rfl
  exact⟨rfl,rfl⟩
theorem nw(S:List PV)(hS:ad S=true)(hl:S.length=11)(V:Int)(h:ab prog 117 [.fn (.func 159) [.agg S] []] [.var S false] (.ret (.tuple [ii V,ii 0])) [.var S false]):ab prog 102 [.agg S] [] (.ret (ii V)) []:=by
 refine ab.of0 hTT func102 rfl rfl ?_;have htk:S.take 11=S:=by rw[←hl,Eg]
 have h11:11<=S.length:=by omega
 repeat with_reducible first|refine nz (ar aa (ent func117 rfl) h (SameLoops.refl _)) ?_|apply ny;simp only[f102,cp,htk,h11,bl,go_sem];rfl
 exact⟨rfl,rfl,_,rfl,rfl⟩
theorem sy(s:Sty)(n:Nt)(zp:Z)(p:List Int)(h:Vd s n p)(hzp:zOk zp (p.map ii)=true):ab prog 102 [.agg (sj s n zp p)] [] (.ret (ii (cX n s.sc p))) []:=by
 have h1:=q9 s h.ok n zp p hzp (by have:=h.p2;omega) h.sl
 have h2:=xi s n zp p h hzp;have h3:=rO s n zp p h hzp;have hV:cX n s.sc p=if dT s.sc 0 p=false then 1 else if un (scn s.sc p)=false then 2 else if iL n (scn s.sc p)=false then 3 else 4:=rfl;have hS:=n9 s n zp p;have hl:(sj s n zp p).length=11:=rfl;generalize sj s n zp p=S at h1 h2 h3 hS hl ⊢;have hbl:∀x∈[Box.var S false],x.Lt 1:=fun x hx=>by
  rw[Ed.1 hx];exact CA hS
 have hla:∀x∈[PV.agg S],Pv.Lt 0 x:=fun x hx=>by
  rw[Ed.1 hx];exact av _ hS
 have pan:∀k:Int,ab prog 159 [.agg S] [] (.pan (.iface 221 (.agg [ii k]))) []->ab prog 102 [.agg S] [] (.ret (ii k)) []:=fun k hk=>by
  refine nw S hS hl k ?_;have hj:ab prog 159 ([PV.agg S]++([]++[])) ([Box.var S false]++[Box.var [ii 0] false,Box.var [ii 0] false]) (.pan (.iface 221 (.agg [ii k]))) ([Box.var S false]++[Box.var [ii 0] false,Box.var [ii 0] false]):=hk.framePan hla ([Box.var S false]++[Box.var [ii 0] false,Box.var [ii 0] false]);exact(nL (fa:=[.agg S]) (cap:=[]) (sg:=[.var S false]) (d:=ii 0) k rfl (ent func159 rfl) hj (SameLoops.refl _) rfl rfl).cut hbl (av (.tuple [ii k,ii 0]) rfl|>.mono (Ee _))
 rw[hV];cases hf:dT s.sc 0 p with
 |false =>
  rw[hf]at h1;rw[DZ rfl];exact pan 1 (judge_1 S hS h1 hl)
 |true =>
  rw[hf]at h1;rw[D5 (by simp)]
  cases ho:un (scn s.sc p)with
  |false =>
   rw[ho]at h2;rw[DZ rfl];exact pan 2 (judge_2 S hS h1 h2 hl)
  |true =>
   rw[ho]at h2 h3;rw[D5 (by simp)]
   cases hp:iL n (scn s.sc p)with
   |false =>
    rw[hp]at h3;rw[DZ rfl];exact pan 3 (judge_3 S hS h1 h2 h3 hl)
   |true =>
    rw[hp]at h3;rw[D5 (by simp)]
    refine nw S hS hl 4 ?_;have hj:ab prog 159 ([PV.agg S]++([]++[])) ([Box.var S false]++[Box.var [ii 0] false,Box.var [ii 0] false]) (.ret (.tuple [])) ([Box.var S false]++[Box.var [ii 0] false,Box.var [ii 0] false]):=(judge_ok S hS h1 h2 h3 hl).frame hla ([Box.var S false]++[Box.var [ii 0] false,Box.var [ii 0] false]);exact(nC (fa:=[.agg S]) (cap:=[]) (sg:=[.var S false]) (ent func159 rfl) hj (SameLoops.refl _) rfl rfl).cut hbl (av (.tuple [ii 4,ii 0]) rfl|>.mono (Ee _))
theorem zOkI{z:Z}{l:List Int}(h:z=.n->l=[]):zOk z (l.map ii)=true:=by
 cases z with
 |n=>rw[h rfl];rfl
 |f=>rfl
 |a=>rfl
def scB(sc:List Sn):Bool:=sc.all fun x=>decide (0<=x.part∧x.part<=2∧1<=x.least∧x.least<=240∧x.least<=x.most∧x.most<=240)
def vdB(s:Sty)(n:Nt)(p:List Int):Bool:=scB s.sc&&decide (s.sc.length<=1000)&&evB n&&decide (1<=p.length∧p.length<=10)&&p.all fun x=>decide (0<=x∧x<s.sc.length)
theorem vd_of{s:Sty}{n:Nt}{p:List Int}(hok:s.ok=true)(h:vdB s n p=true):Vd s n p:=by
 unfold vdB scB at h;simp only[D3,Eo,D7]at h;exact⟨hok,h.1.1.1.1,h.1.1.1.2,h.1.1.2,h.1.2.1,h.1.2.2,h.2⟩
theorem vd_to{s:Sty}{n:Nt}{p:List Int}(h:Vd s n p):vdB s n p=true:=by
 unfold vdB scB;simp only[D3,Eo,D7];exact⟨⟨⟨⟨h.sc,h.sl⟩,h.ev⟩,h.p1,h.p2⟩,h.rg⟩
theorem pY{s:Sty}{n:Nt}(hok:s.ok=true)(hst:s.story=true)(he:evB n=true){p:List Int}(hp:p∈aX s.e s.sc s.rl):Vd s n p:=by
 have hS:StoryOk s.e s.sc s.rl:=fH.1 hst;have hf:=hS.plays_fine p hp;exact⟨hok,hS.sn,by have:=hS.s8;omega,he,hf.1,hf.2.1,hf.2.2⟩
def c104:Tb_
 |[v,w,u],sg=>match cS v,gJ w,aN u with
  |some s,some n,some p=>if vdB s n p=true then some (.ret (ii (cX n s.sc p)),sg)else none
  |_,_,_=>none
 |_,_=>none
theorem c104_ok:al prog 104 c104:=al.of0 (ent func104 rfl) fun args sg r sg' h=>by
 unfold c104 at h;split at h <;> try (cases h;done)
 split at h <;> try (cases h;done)
 rename_i s n p h1 h2 h3;split at h <;> cases h
 rename_i hc;obtain⟨rfl,hok⟩:=aM h1;obtain rfl:=dz h2;obtain⟨z,rfl,hz⟩:=aJ h3;exact⟨_,rfl,rfl,by rw[af,af,af,cm,bt];rfl,tJ s n z p (vd_of hok hc) (zOkI hz)⟩
def c102:Tb_
 |[.agg [a,b,c,x0,x1,x2,x3,x4,x5,x6,u]],sg=>match cS (.agg [a,b,c]),gJ (.agg [x0,x1,x2,x3,x4,x5,x6]),aN u with
  |some s,some n,some p=>if vdB s n p=true then some (.ret (ii (cX n s.sc p)),sg)else none
  |_,_,_=>none
 |_,_=>none
theorem c102_ok:al prog 102 c102:=al.of0 (ent func102 rfl) fun args sg r sg' h=>by
 unfold c102 at h;split at h <;> try (cases h;done)
 split at h <;> try (cases h;done)
 rename_i s n p h1 h2 h3;split at h <;> cases h
 rename_i hc;obtain⟨e1,hok⟩:=aM h1;have e2:=dz h2;obtain⟨z,rfl,hz⟩:=aJ h3;cases e1;cases e2;exact⟨_,rfl,rfl,ae 0 _ (by simp[ad,PV.closed,ap,ao,ac]),sy s n z p (vd_of hok hc) (zOkI hz)⟩
end Go.Pv
