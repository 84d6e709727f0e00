import Derived.Test.YtmebonambbhehaaGreatQkkCz
import Derived.Test.YtmebonambbhehaaGreatQtWho
set_option linter.all false
open Go.Proofs.Tryz
namespace Go.Pv
open Go Go.RowKit Go.Proofs
set_option maxRecDepth 200000
set_option maxHeartbeats 80000000
theorem L22_ok:dU prog 22 (dc [([],vS)]):=conL1 (ent func22 rfl) kkS rfl
theorem L23L_ok:dU prog 23 (dc [([],vN)]):=conL1 (ent func23 rfl) kkN rfl
theorem L21_ok:dU prog 21 (dc [([vS,vN],r62)]):=conL1 (ent func21 rfl) k62 (by kernel_rfl)
def primT11:iY:=fE (fE (fE bf 22 (dc [([],vS)])) 23 (dc [([],vN)])) 21 (dc [([vS,vN],r62)])
theorem KJ:nt prog primT11:=aQ (aQ (aQ bu L22_ok) L23L_ok) L21_ok
theorem Ob:ab prog 7 [] [] (.ret (.bool true)) []:=bT KJ (k:=300) (by kernel_rfl)
def c7u:Tb_
 |[],sg=>some (.ret (.bool true),sg)
 |_,_=>none
theorem c7u_ok:dU prog 7 c7u:=dU.of0 (ent func7 rfl) fun args sg r sg' h=>by
 unfold c7u at h;split at h <;> cases h
 exact⟨_,rfl,rfl,rfl,Ob⟩
set_option maxHeartbeats 8000000
theorem NU(a b:List Int):Ls a b=Ls b a:=by
 unfold Ls;induction a generalizing b with
 |nil=>cases b <;> rfl
 |cons x a ih =>
  cases b with
  |nil=>rfl
  |cons y b =>
   rw[Gs,Gs,EZ,EZ];by_cases h:x=y
   ·rw[D5 (by simp[h]),D5 (by simp[h])]
    exact ih b
   ·rw[DZ (by simp[h]),DZ (by simp;exact fun e=>h e.symm),Ek,Ek,ih b]
def erT(fs:List Fg)(j i:Nat):List Fg:=(fs.take i).eraseIdx j
theorem erT_succ{fs:List Fg}{j i:Nat}{f:Fg}(hf:fs[i]?=some f):erT fs j (i+1)=erT fs j i++(if i=j then[]else[f]):=by
 have hi:=(DR.1 hf).1;have hl:(fs.take i).length=i:=by rw[En];omega
 unfold erT;rw[Ev,hf]
 show(fs.take i++[f]).eraseIdx j=_
 by_cases h:i=j
 ·subst h
  rw[DZ rfl,Er,List.eraseIdx_append_of_length_le (by omega),hl,F9,List.eraseIdx_of_length_le (l:=fs.take i) (by omega)]
  simp
 ·rw[D5 h]
  by_cases hj:j<i
  ·rw[List.eraseIdx_append_of_lt_length (by omega)]
  ·rw[List.eraseIdx_append_of_length_le (by omega),List.eraseIdx_of_length_le (l:=fs.take i) (by omega),hl,List.eraseIdx_of_length_le (by simp;omega)]
theorem erT_end(fs:List Fg)(j:Nat):erT fs j fs.length=fs.eraseIdx j:=by unfold erT;rw[Eg]
theorem erT_len(fs:List Fg)(j i:Nat):(erT fs j i).length<=i:=by
 unfold erT;refine Em (List.length_eraseIdx_le ..) ?_;rw[En];omega
def Ch.less(c:Ch)(j:Nat):Ch:=⟨c.room,c.depth,if(c.fs.eraseIdx j).isEmpty=true then .n else .a,c.fs.eraseIdx j⟩
theorem less_z(c:Ch)(j:Nat):((c.less j).zf=.n∧(c.less j).fs=[])∨((c.less j).zf=.a∧(c.less j).fs≠[]):=by
 unfold Ch.less;cases h:c.fs.eraseIdx j with
 |nil=>exact .inl ⟨rfl,rfl⟩
 |cons x l=>exact .inr ⟨rfl,by simp⟩
theorem less_ok(c:Ch)(j:Nat):(c.less j).ok=true:=by
 unfold Ch.ok;rcases less_z c j with ⟨h1,h2⟩|⟨h1,_⟩
 ·rw[h1,h2];rfl
 ·rw[h1];rfl
theorem M2{c:Ch}(h:chBL c=true):inB c.room 1 20=true∧inB c.depth 1 5=true∧c.fs.length<=6∧∀f∈c.fs,fgB f=true:=by
 unfold chBL at h;rw[D3,D3,D3,D7]at h;exact⟨h.1.1.1,h.1.1.2,Eu h.1.2,h.2⟩
theorem chB_of{c:Ch}(h1:inB c.room 1 20=true)(h2:inB c.depth 1 5=true)(h3:c.fs.length<=6)(h4:∀f∈c.fs,fgB f=true):chBL c=true:=by
 unfold chBL;rw[D3,D3,D3,D7];exact⟨⟨⟨h1,h2⟩,Ej h3⟩,h4⟩
theorem less_b{c:Ch}(h:chBL c=true)(j:Nat):chBL (c.less j)=true:=by
 obtain⟨h1,h2,h3,h4⟩:=M2 h;exact chB_of h1 h2 (Em (List.length_eraseIdx_le ..) h3) fun f hf=>h4 f (List.mem_of_mem_eraseIdx hf)
theorem ND{f:Fg}(h:fgB f=true):1<=f.size∧f.size<=9:=by
 unfold fgB at h;rw[D3,D3]at h;exact bm.1 h.1.1
structure Lent(c X:Ch)(f:Fg)(p q:List Int):Prop where
 best:bstP ltY (rightsL X)=some p
 later:bstP (ltM p) (rightsL (X.more f))=some q
 pl:p.length=X.fs.length
 pb:pkB X p=true
 pr:rightB X.room X.depth X.fs p=true
 ql:q.length=X.fs.length+1
 qb:pkB (X.more f) q=true
 qr:rightB c.room c.depth (X.more f).fs q=true
 mb:chBL (X.more f)=true
 fb:fgB f=true
 ln:X.fs.length<6
theorem pkB_of{c:Ch}{p:List Int}(h:p∈rightsL c):pkB c p=true:=by
 obtain⟨h1,_,h3⟩:=lV h;unfold pkB;rw[D3,Eo,D7];exact⟨h1,fun x hx=>bm.2 (by have:=h3 x hx;omega)⟩
theorem lent_of{c:Ch}(hb:chBL c=true){j:Nat}{f:Fg}(hf:c.fs[j]?=some f)(hn:rightsL c≠[]):∃p q,Lent c (c.less j) f p q:=by
 obtain⟨h1,h2,h3,h4⟩:=M2 hb;obtain⟨p0,hp0⟩:=List.exists_mem_of_ne_nil _ hn;obtain⟨r1,r2,r3⟩:=lV hp0;have k1:=bm.1 h1;have hj:=(DR.1 hf).1;have hR:(0:Int)<=c.room:=by omega
 have hL:rightsL (c.less j)≠[]:=NJ hf r1 r2 r3 (fun x hx=>by have:=ND (h4 x hx);omega) hR
 have hM:rightsL ((c.less j).more f)≠[]:=Ni hf r1 r2 r3;obtain⟨p,hp⟩:=MX (lt:=ltY) hL;obtain⟨q,hq⟩:=MX (lt:=ltM p) hM;have hpm:=LE hp;have hqm:=LE hq;have hfb:=h4 f (DU hf);have hel:(c.less j).fs.length=c.fs.length-1:=by
  show(c.fs.eraseIdx j).length=_
  rw[List.length_eraseIdx,DZ hj]
 have hql:q.length=((c.less j).more f).fs.length:=(lV hqm).1;refine⟨p,q,hp,hq,(lV hpm).1,pkB_of hpm,(lV hpm).2.1,?_,pkB_of hqm,(lV hqm).2.1,?_,hfb,by omega⟩
 ·rw[hql]
  show((c.less j).fs++[f]).length=_
  simp
 ·refine chB_of h1 h2 ?_ fun x hx=>?_
  ·show((c.less j).fs++[f]).length<=6
   rw[Ea,hel];show c.fs.length-1+1<=6;omega
  ·rcases Ez.1 hx with hx|hx
   ·exact h4 x (List.mem_of_mem_eraseIdx hx)
   ·simp only[D6,Eb,EM]at hx
    subst hx;exact hfb
def c4:Tb_
 |[v],sg=>match N6 v with
  |some r=>if r.kinds.length<=1000∧r.hides.length<=1000 then some (.ret (.bool (rgBL r)),sg)else none
  |none=>none
 |_,_=>none
theorem c4_ok:dU prog 4 c4:=dU.of0 (ent func4 rfl) fun args sg r sg' h=>by
 unfold c4 at h;split at h <;> try (cases h;done)
 split at h <;> try (cases h;done)
 rename_i r h1;split at h <;> cases h
 rename_i hc;obtain⟨rfl,hok⟩:=M0 h1;exact⟨_,rfl,rfl,by rw[af,ltB_rg];rfl,NK r hok hc.1 hc.2⟩
def c5:Tb_
 |[v,w],sg=>match N6 v,aN w with
  |some r,some f=>some (.ret (.bool (findB r f)),sg)
  |_,_=>none
 |_,_=>none
theorem c5_ok:dU prog 5 c5:=dU.of0 (ent func5 rfl) fun args sg r sg' h=>by
 unfold c5 at h;split at h <;> try (cases h;done)
 split at h <;> cases h
 rename_i r f h1 h2;obtain⟨rfl,hok⟩:=M0 h1;obtain⟨z,rfl,hz⟩:=aJ h2;exact⟨_,rfl,rfl,by rw[af,ltB_rg,af,bt];rfl,Find_5 r z f (zOkL hz)⟩
def c6:Tb_
 |[v],sg=>match decCh v with
  |some c=>if c.fs.length<=100000 then some (.ret (.bool (chBL c)),sg)else none
  |none=>none
 |_,_=>none
theorem c6_ok:dU prog 6 c6:=dU.of0 (ent func6 rfl) fun args sg r sg' h=>by
 unfold c6 at h;split at h <;> try (cases h;done)
 split at h <;> try (cases h;done)
 rename_i c h1;split at h <;> cases h
 rename_i hc;obtain⟨rfl,hok⟩:=N9 h1;exact⟨_,rfl,rfl,by rw[af,ltB_ch];rfl,List_6 c hok hc⟩
def Oe:CallF:=aE (aE (aE (aE cf0 4 c4) 5 c5) 6 c6) 7 c7u
theorem Lp:CallFOk prog Oe:=ah (ah (ah (ah aa c4_ok) c5_ok) c6_ok) c7u_ok
theorem am.frzRow{P:Program}{c:Code}{Q:Out->St->Prop}(id:Nat){tm:List (Nat×PV)}{n k:Nat}{e:TypeId}{sg sg':List Box}{z:Bool}{es:List PV}(hb:sg[id]?=some (.row z e k es false))(hc:ad es=true)(e1:sg.set id (.row z e k es true)=sg')(hq:am P c ⟨tm,n,sg'⟩ Q):am P c ⟨tm,n,sg⟩ Q:=by
 have hrows:bW sg [id]=sg':=by
  unfold bW;simp only[hb,bW];rw[bE (n:=4) (flat es) sg (bj es hc)];simp only[bx];exact e1
 have g1:aL ⟨tm,n,sg⟩ ⟨tm,n,sg'⟩:=by
  have:=aL.rows [id] sg ⟨tm,n,sg⟩ rfl
  rw[hrows]at this;exact this
 exact am.pre g1 hq
theorem whoV_is(r:Rg)(f:List Int)(hn:r.hides.length<=1000):∃(zw:Z) (W:List Int) (ee:Int),whoV r f=.tuple [.sl zw (W.map ii),ii ee]∧zOk zw (W.map ii)=true∧((ee=7∧W.length=0)∨(ee=0∧W.length=r.hides.length)):=by
 unfold whoV;split
 ·exact⟨.n,[],7,rfl,rfl,.inl ⟨rfl,rfl⟩⟩
 ·exact⟨.a,whoR r f,0,rfl,rfl,.inr ⟨rfl,whoR_len r f⟩⟩
theorem law_lent(r:Rg)(hr:r.ok=true)(z:Z)(f:List Int)(hz:zOk z (f.map ii)=true)(c:Ch)(hc:c.ok=true):ab prog 3 [.agg r.cells,.sl z (f.map ii),.agg c.cells] [] (.ret (.bool true)) []:=by
 refine ab.of0 hTT func3 rfl rfl ?_;have hck:=cV r.kinds;have hch:=nB r.hides;have hcf:=cV f;have hcg:=cY c.fs;have d1:=M8 r hr;have d2:aN (.sl z (f.map ii))=some f:=aI hz;have d3:=Nf c hc;by_cases a1:(8:Int)<r.hides.length
 ·repeat with_reducible first|refine nz Lp ?_|apply ny;simp only[f3,Oe,c7u,a1,EW,hck,hch,hcf,hcg,go_sem];rfl
  exact⟨rfl,rfl,_,rfl,rfl⟩
 by_cases a2:(8:Int)<r.kinds.length
 ·repeat with_reducible first|refine nz Lp ?_|apply ny;simp only[f3,Oe,c7u,a1,a2,EW,hck,hch,hcf,hcg,go_sem];rfl
  exact⟨rfl,rfl,_,rfl,rfl⟩
 have k1:r.hides.length<=1000:=by omega
 have k2:r.kinds.length<=1000:=by omega
 cases b1:rgBL r
 ·repeat with_reducible first|refine nz Lp ?_|apply ny;simp only[f3,Oe,c4,c7u,d1,k1,k2,b1,a1,a2,EW,hck,hch,hcf,hcg,go_sem];rfl
  exact⟨rfl,rfl,_,rfl,rfl⟩
 cases b2:findB r f
 ·repeat with_reducible first|refine nz Lp ?_|apply ny;simp only[f3,Oe,c4,c5,c7u,d1,d2,k1,k2,b1,b2,a1,a2,EW,hck,hch,hcf,hcg,go_sem];rfl
  exact⟨rfl,rfl,_,rfl,rfl⟩
 by_cases a3:(8:Int)<c.fs.length
 ·repeat with_reducible first|refine nz Lp ?_|apply ny;simp only[f3,Oe,c4,c5,c7u,d1,d2,k1,k2,b1,b2,a1,a2,a3,EW,hck,hch,hcf,hcg,go_sem];rfl
  exact⟨rfl,rfl,_,rfl,rfl⟩
 have k3:c.fs.length<=100000:=by omega
 cases b3:chBL c
 ·repeat with_reducible first|refine nz Lp ?_|apply ny;simp only[f3,Oe,c4,c5,c6,c7u,d1,d2,d3,k1,k2,k3,b1,b2,b3,a1,a2,a3,EW,hck,hch,hcf,hcg,go_sem];rfl
  exact⟨rfl,rfl,_,rfl,rfl⟩
 have h8:=Who_8 ⟨hr,b1,b2,hz⟩;obtain⟨zw,W,ee,hwv,hwz,hwe⟩:=whoV_is r f k1;rw[hwv]at h8;have hcw:=cV W;have h9:=Count_9 c hc b3;have hbt8:bD 0 [PV.agg r.cells,.sl z (f.map ii)]=true:=ae 0 _ (by simp[ad,PV.closed,nB,cV])
 have hbt9:bD 0 [PV.agg c.cells]=true:=ae 0 _ (by simp[ad,PV.closed,cY])
 have hTl:=L6 b3;have hTe:rightsL c=[]∨rightsL c≠[]:=Decidable.em _;generalize hT:(rightsL c).length=T at h9 hTl;repeat with_reducible first|(fail_if_success refine am.seq (x:=.region 5 _ _) ?_);(fail_if_success show am _ (.region 5 _ _) _ _);refine nz (aj (aj Lp (ent func8 rfl) h8 hbt8) (ent func9 rfl) h9 hbt9) ?_|apply ny;simp only[f3,eA,Oe,c4,c5,c6,d1,d2,d3,k1,k2,k3,b1,b2,b3,a1,a2,a3,EW,hck,hch,hcf,hcg,hcw,go_sem];rfl
 refine am.keep [10,9,8,7,6,5,3] (by simp only[go_sem];rfl) ?_
 have n70:((7:Int) != 0)=true:=rfl;have n77:((7:Int) != 7)=false:=rfl;have n00:((0:Int) != 0)=false:=rfl;have e70:((7:Int)==0)=false:=rfl;have hT0:¬((T:Nat):Int)<0:=by omega
 refine am.cutK [91,9,7,6,5,3] (tm':=[(91,.bool false),(9,ii (T:Nat)),(7,.sl zw (W.map ii)),(6,.bool false),(5,.bp 1 0),(3,.bp 0 0)]) (n':=201) (sg':=[.var r.cells false,.var c.cells false]) ?_ ?_
 ·rcases hwe with ⟨rfl,hw0⟩|⟨rfl,hwl⟩
  ·repeat with_reducible first|refine nz aa ?_|apply ny;simp only[f3,n70,n77,n00,e70,hT0,go_sem];rfl
   exact⟨rfl,rfl,rfl,rfl⟩
  ·have hwl':((W.length:Int) != (r.hides.length:Int))=false:=by rw[hwl];simp
   repeat with_reducible first|refine nz aa ?_|apply ny;simp only[f3,n00,hT0,hwl',go_sem];rfl
   exact⟨rfl,rfl,rfl,rfl⟩
 have hWl:W.length<=1000:=by omega
 repeat with_reducible first|refine nz aa ?_|apply ny;simp only[f3,go_sem];rfl
 refine am.keep [12,11,9,7,6,5,3] (by simp only[go_sem];rfl) ?_
 refine am.loop (fun i s'=>∃l:Int,(l = -1∨∃j:Nat,l=j)∧s'=⟨[(12,ii (i:Nat)),(11,ii l),(9,ii (T:Nat)),(7,.sl zw (W.map ii)),(6,.bool false),(5,.bp 1 0),(3,.bp 0 0)],201,[.var r.cells false,.var c.cells false]⟩) W.length ⟨-1,.inl rfl,by first|(simp only[go_sem];first|done|rfl)|rfl⟩ ?_
 rintro i _ hi ⟨l,hl,rfl⟩;by_cases hlt:i<W.length
 ·obtain⟨x,hx⟩:=gex hlt
  have hx':(W.map ii)[i]?=some (ii x):=aw hx;have hlt':(i:Int)<W.length:=by omega
  have hz':zw≠.n:=fun e=>by rw[bd hwz e]at hlt;simp at hlt
  have e4:=wIs i (by omega)
  cases hx3:x==3
  ·repeat with_reducible first|refine nz aa ?_|apply ny;simp only[f3,hx',hlt',hz',hx3,e4,go_sem];rfl
   refine ak.t 2 [12,11,9,7,6,5,3] hlt (by simp only[aF,vh,dX,go_sem]) ⟨l,hl,rfl⟩
  ·repeat with_reducible first|refine nz aa ?_|apply ny;simp only[f3,hx',hlt',hz',hx3,e4,go_sem];rfl
   refine ak.t 2 [12,11,9,7,6,5,3] hlt (by simp only[aF,vh,dX,go_sem]) ⟨(i:Int),.inr ⟨i,rfl⟩,rfl⟩
 have hlt':¬(i:Int)<W.length:=by omega
 rcases hl with rfl|⟨j,rfl⟩
 ·have m1:(-1:Int)<0:=by decide
  repeat with_reducible first|refine nz Lp ?_|apply ny;simp only[f3,Oe,c7u,hlt',m1,go_sem];rfl
  exact⟨rfl,rfl,_,rfl,rfl⟩
 have m0:¬((j:Nat):Int)<0:=by omega
 by_cases hjl:c.fs.length<=j
 ·have hjl':(c.fs.length:Int)<=j:=by omega
  repeat with_reducible first|refine nz Lp ?_|apply ny;simp only[f3,Oe,c7u,hlt',m0,hjl',EO,go_sem];rfl
  exact⟨rfl,rfl,_,rfl,rfl⟩
 have hjl':¬(c.fs.length:Int)<=j:=by omega
 by_cases hT1:T=0
 ·have hT1':((T:Int)==0)=true:=by simp[hT1]
  repeat with_reducible first|refine nz Lp ?_|apply ny;simp only[f3,Oe,c7u,hlt',m0,hjl',hT1',EO,go_sem];rfl
  exact⟨rfl,rfl,_,rfl,rfl⟩
 have hT1':((T:Int)==0)=false:=by rw[EF];omega
 have hne:rightsL c≠[]:=fun e=>hT1 (by rw[←hT,e];rfl)
 obtain⟨fg,hfg⟩:∃fg,c.fs[j]?=some fg:=⟨_,DT (by omega)⟩
 obtain⟨p,q,hL⟩:=lent_of b3 hfg hne;have hfg':(c.fs.map dr)[j]?=some (.agg [ii fg.size,ii fg.rank,ii fg.eve]):=aw hfg;have hjl2:(j:Int)<c.fs.length:=by omega
 have hzc:c.zf≠.n:=fun e=>by rw[bd hc e]at hfg;simp at hfg
 repeat with_reducible first|refine nz aa ?_|apply ny;simp only[f3,hlt',m0,hjl',hT1',EO,hcg,go_sem];rfl
 refine am.keep [14,13,11,6,5,3] (by simp only[go_sem];rfl) ?_
 refine am.nilBox (sg':=[.var r.cells false,.var c.cells false,.var [ii c.room,ii c.depth,.ms 3 0] false,.row true 44 3 [] false]) 2 2 44 3 rfl rfl rfl ?_;have h0:erT c.fs j 0=[]:=by unfold erT;simp
 refine am.loop (fun i s'=>s'=⟨[(14,ii (i:Nat)),(13,.bp 2 0),(11,ii (j:Nat)),(6,.bool false),(5,.bp 1 0),(3,.bp 0 0)],201,[.var r.cells false,.var c.cells false,.var [ii c.room,ii c.depth,.ms 3 (erT c.fs j i).length] false,.row (erT c.fs j i).isEmpty 44 3 ((erT c.fs j i).map dr) false]⟩) c.fs.length (by first|(simp only[h0,go_sem];first|done|rfl)|rfl) ?_
 clear hlt hlt' hi;rintro i _ hi rfl;by_cases hlt:i<c.fs.length
 ·obtain⟨x,hx⟩:=gex hlt
  have hx':(c.fs.map dr)[i]?=some (.agg [ii x.size,ii x.rank,ii x.eve]):=aw hx;have hlt':(i:Int)<c.fs.length:=by omega
  have e4:=wIs i (by omega)
  have hs:=erT_succ (j:=j) hx;have hA:=erT_len c.fs j i;generalize erT c.fs j i=A at hs hA ⊢;by_cases hij:i=j
  ·rw[DZ hij,Er]at hs
   have n1:((i:Int) != (j:Int))=false:=by simp[hij]
   repeat with_reducible first|refine nz aa ?_|apply ny;simp only[f3,hlt',n1,e4,hcg,go_sem];rfl
   refine ak.t 4 [14,13,11,6,5,3] hlt (by simp only[aF,vh,dX,go_sem]) (by rw[hs];first|(simp only[go_sem];first|done|rfl)|rfl)
  ·rw[D5 hij]at hs
   have n1:((i:Int) != (j:Int))=true:=by rw[bne_iff_ne];omega
   have hE:(A++[x]).isEmpty=false:=by simp
   have hLn:(A++[x]).length=A.length+1:=by simp
   have hM:(A++[x]).map dr=A.map dr++[.agg [ii x.size,ii x.rank,ii x.eve]]:=by rw[Ec];rfl
   have q1:(A.length+1)*24<=140737488355328:=by omega
   have q2:A.length+1<=maxLen:=by unfold maxLen;omega
   repeat with_reducible first|refine nz aa ?_|apply ny;simp only[f3,hlt',hx',hzc,n1,e4,q1,q2,hcg,go_sem];rfl
   refine ak.t 4 [14,13,11,6,5,3] hlt (by simp only[aF,vh,dX,bJ,go_sem]) (by rw[hs,hE,hLn,hM];first|(simp only[go_sem];first|done|rfl)|rfl)
 have hlt':¬(i:Int)<c.fs.length:=by omega
 obtain rfl:i=c.fs.length:=by omega
 rw[erT_end];refine am.frzRow 3 (sg':=[.var r.cells false,.var c.cells false,.var [ii c.room,ii c.depth,.ms 3 (c.fs.eraseIdx j).length] false,.row (c.fs.eraseIdx j).isEmpty 44 3 ((c.fs.eraseIdx j).map dr) true]) rfl (cY _) rfl ?_;refine am.varView 2 2 (c:=.ms 3 (c.fs.eraseIdx j).length) (c':=.sl (if(c.fs.eraseIdx j).isEmpty=true then .n else .a) ((c.fs.eraseIdx j).map dr)) (sg':=[.var r.cells false,.var c.cells false,.var (c.less j).cells false,.row (c.fs.eraseIdx j).isEmpty 44 3 ((c.fs.eraseIdx j).map dr) true]) rfl rfl (show(if((c.fs.eraseIdx j).map dr).length=(c.fs.eraseIdx j).length then some (PV.sl (if(c.fs.eraseIdx j).isEmpty=true then Z.n else Z.a) ((c.fs.eraseIdx j).map dr))else none)=_ by rw[DZ (DX ..)]) rfl ?_
 have hXz:=less_z c j;have hXo:=less_ok c j;have hXb:=less_b b3 j;have hXr:(c.less j).room=c.room:=rfl;have hXd:(c.less j).depth=c.depth:=rfl;generalize hRW:Box.row (c.fs.eraseIdx j).isEmpty 44 3 ((c.fs.eraseIdx j).map dr) true=RW;generalize c.less j=X at *;have hXc:=ChOk.of hXo hXb;have hcx:=cY X.fs;have h10:=Best_10 X hXo hXb;have hbv:bestV X=.tuple [pvN p,ii (g4 p),ii 0]:=by unfold bestV;rw[hL.best]
 have hpm:=LD hXc (LE hL.best);have hYc:=ChOk.of (c:=X.more fg) rfl hL.mb;have hqm:=LD hYc (LE hL.later);obtain⟨zp,ep,hzp⟩:=LJ p;rw[hbv,ep]at h10;have hcp:=cV p;have h11:=Mo X zp p hzp (by omega) (by have:=hXc.depth;omega)
 rw[hL.pb]at h11;have h12:=MM zp p hzp hpm.2.1 hpm.2.2;have h13:=Later_13 X zp p fg hXz hXb hzp hL.pb hL.fb hL.ln hL.pr;have hlv:Nt X p fg=.tuple [pvN q,ii (Ls q p:Nat),ii 0]:=by unfold Nt;rw[hL.later]
 have h14:=With_14 X fg hXz (by have:=hXc.len;omega)
 have hq0:0<q.length:=by rw[hL.ql];omega
 obtain⟨qa,ql,rfl⟩:∃a l,q=a::l:=by
  cases q with
  |nil=>simp at hq0
  |cons a l=>exact⟨a,l,rfl⟩
 have hpq:pvN (qa::ql)=.sl .a (ii qa::ql.map ii):=rfl;have hcl:=cV ql;rw[hlv,hpq]at h13;have hwsz:∀x∈(X.more fg).fs,1<=x.size∧x.size<=1000:=fun x hx=>by
  have:=ND ((M2 hL.mb).2.2.2 x hx)
  omega
 have k11:=Mo (X.more fg) .a (qa::ql) rfl (by omega) (by have:=hYc.depth;omega)
 rw[hL.qb]at k11;have k15:=Right_15 (X.more fg) .a (qa::ql) rfl rfl hqm.1 hqm.2.1 hqm.2.2 hwsz hYc.depth;have hYr:rightB (X.more fg).room (X.more fg).depth (X.more fg).fs (qa::ql)=true:=by
  have:=hL.qr
  rw[←hXr,←hXd]at this;exact this
 rw[hYr]at k15;have k16:=Moved_16 zp .a p (qa::ql) hzp rfl hpm.2.1 hqm.2.1;rw[NU p (qa::ql)]at k16;have hYcl:=cY (X.more fg).fs;have t10:bD 0 [PV.agg X.cells]=true:=ae 0 _ (by simp[ad,PV.closed,cY])
 have t11:bD 0 [PV.agg X.cells,.sl zp (p.map ii)]=true:=ae 0 _ (by simp[ad,PV.closed,cY,cV])
 have t12:bD 0 [PV.sl zp (p.map ii)]=true:=ae 0 _ (by simp[ad,PV.closed,cV])
 have hef:dr fg=.agg [ii fg.size,ii fg.rank,ii fg.eve]:=rfl;rw[hef]at h13 h14;have t13:bD 0 [PV.agg X.cells,.sl zp (p.map ii),.agg [ii fg.size,ii fg.rank,ii fg.eve]]=true:=ae 0 _ (by simp[ad,PV.closed,cY,cV])
 have t14:bD 0 [PV.agg X.cells,.agg [ii fg.size,ii fg.rank,ii fg.eve]]=true:=ae 0 _ (by simp[ad,PV.closed,cY])
 repeat with_reducible first|(fail_if_success refine am.seq (x:=.region 25 _ _) ?_);(fail_if_success show am _ (.region 25 _ _) _ _);refine nz (aj (aj (aj aa (ent func10 rfl) h10 t10) (ent func11 rfl) h11 t11) (ent func12 rfl) h12 t12) ?_|apply ny;simp only[f3,eA,hlt',n00,hcg,hcx,hcp,go_sem];rfl
 refine am.keep [17,16,15,13,11,6,5,3] (by simp only[go_sem];rfl) ?_
 repeat with_reducible first|(fail_if_success refine am.seq (x:=.region 26 _ _) ?_);(fail_if_success show am _ (.region 26 _ _) _ _);refine nz (aj aa (ent func13 rfl) h13 t13) ?_|apply ny;simp only[f3,eA,hfg',hjl2,hzc,hcg,hcx,hcp,hcl,go_sem];rfl
 repeat with_reducible first|(fail_if_success refine am.seq (x:=.region 27 _ _) ?_);(fail_if_success show am _ (.region 27 _ _) _ _);refine nz (aj aa (ent func14 rfl) h14 t14) ?_|apply ny;simp only[f3,eA,hfg',hjl2,hzc,hcg,hcx,hcp,hcl,hYcl,go_sem];rfl
 refine am.keep [21,20,19,18,15,6] (by simp only[go_sem];rfl) ?_
 generalize X.more fg=Y at k11 k15 hYcl ⊢;have k11:ab prog 11 [.agg Y.cells,.sl .a (ii qa::ql.map ii)] [] (.ret (.bool true)) []:=k11;have k15:ab prog 15 [.agg Y.cells,.sl .a (ii qa::ql.map ii)] [] (.ret (.bool true)) []:=k15;have k16:ab prog 16 [.sl zp (p.map ii),.sl .a (ii qa::ql.map ii)] [] (.ret (ii (Ls (qa::ql) p:Nat))) []:=k16;have u11:bD 0 [PV.agg Y.cells,.sl .a (ii qa::ql.map ii)]=true:=ae 0 _ (by simp[ad,PV.closed,cY,cV])
 have u16:bD 0 [PV.sl zp (p.map ii),.sl .a (ii qa::ql.map ii)]=true:=ae 0 _ (by simp[ad,PV.closed,cV])
 have z00:((0:Int)==0)=true:=rfl;repeat with_reducible first|refine nz (ah (aj (aj (aj aa (ent func11 rfl) k11 u11) (ent func15 rfl) k15 u11) (ent func16 rfl) k16 u16) c7u_ok) ?_|apply ny;simp only[f3,aE,eA,c7u,z00,hYcl,hcl,hcp,go_sem];rfl
 subst hRW;exact⟨rfl,rfl,_,rfl,rfl⟩
end Go.Pv
