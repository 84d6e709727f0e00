import Derived.Test.YtkahmnpcfghpiaaGreatQzEv
import Derived.Test.YtkahmnpcfghpiaaGreatQzLaw
set_option linter.all false
open Go.Proofs.Tryz
namespace Go.Pv
open Go Go.RowKit Go.Proofs
set_option maxRecDepth 200000
set_option maxHeartbeats 8000000
def c15u:Tb_
 |[v],sg=>match Kb v with
  |some b=>some (.ret (.bool (bkB b)),sg)
  |_=>none
 |_,_=>none
theorem c15u_ok:al prog 15 c15u:=al.of0 (ent func15 rfl) fun args sg r sg' h=>by
 unfold c15u at h;split at h <;> try (cases h;done)
 split at h <;> cases h
 rename_i h1;obtain⟨rfl,hok⟩:=qs h1;exact⟨_,rfl,rfl,by rw[af,FP];rfl,Book_15 _ hok⟩
def c16u:Tb_
 |[v,.int .i64 n],sg=>match Kb v with
  |some b=>if b.vs.length<=1000 then some (.ret (.bool (inB n 0 ((b.vs.length:Int)-1))),sg)else none
  |_=>none
 |_,_=>none
theorem c16u_ok:al prog 16 c16u:=al.of0 (ent func16 rfl) fun args sg r sg' h=>by
 unfold c16u at h;split at h <;> try (cases h;done)
 split at h <;> try (cases h;done)
 rename_i h1;split at h <;> cases h
 rename_i hc;obtain⟨rfl,hok⟩:=qs h1;exact⟨_,rfl,rfl,by rw[af,FP];rfl,KD _ _ hc⟩
def c19u:Tb_
 |[v,.int .i64 n,w],sg=>match Kb v,aN w with
  |some b,some l=>some (.ret (cplR b n l),sg)
  |_,_=>none
 |_,_=>none
theorem c19u_ok:al prog 19 c19u:=al.of0 (ent func19 rfl) fun args sg r sg' h=>by
 unfold c19u at h;split at h <;> try (cases h;done)
 split at h <;> cases h
 rename_i h1 h2;obtain⟨rfl,hok⟩:=qs h1;obtain⟨z,rfl,hz⟩:=aJ h2;exact⟨_,rfl,rfl,by rw[af,FP,af,af,bt];rfl,Plays_19 _ hok _ _ _ (qy fun e=>hz e)⟩
def c21u:Tb_
 |[v,.sl .n [],w],sg=>match Kb v,aN w with
  |some b,some l=>some (.ret (csuR b l),sg)
  |_,_=>none
 |_,_=>none
theorem c21u_ok:al prog 21 c21u:=al.of0 (ent func21 rfl) fun args sg r sg' h=>by
 unfold c21u at h;split at h <;> try (cases h;done)
 split at h <;> cases h
 rename_i h1 h2;obtain⟨rfl,hok⟩:=qs h1;obtain⟨z,rfl,hz⟩:=aJ h2;exact⟨_,rfl,rfl,by rw[af,FP,af,af,bt];rfl,Sure_21 _ hok _ _ (qy fun e=>hz e)⟩
theorem y0(c:Int)(p:List Int):(cuB c p).length=min 8 p.length:=by unfold cuB;rw[DX,En]
theorem KP{b:Bk}{p:List Int}(hc:0<b.cues)(hp:∀x∈p,0<=x):cusB b (cuB b.cues p)=true:=by
 unfold cusB;rw[D3,D7];refine⟨Ej (by rw[y0];omega),fun x hx=>?_⟩
 unfold cuB at hx;obtain⟨y,hy,rfl⟩:=Ex.1 hx;have h0:=hp y (Ey hy);rw[Int.tmod_eq_emod_of_nonneg h0];have:=Int.emod_nonneg y (by omega:b.cues≠0)
 have:=Int.emod_lt_of_pos y hc
 exact bm.2 ⟨by omega,by omega⟩
theorem cuB_take{c:Int}{p q:List Int}{n k:Nat}(h:p.take n=q.take n)(hk:k<=n)(h8:k<=8):(cuB c p).take k=(cuB c q).take k:=by
 have hp:p.take k=q.take k:=by
  have:=congrArg (List.take k) h
  rwa [Ll,Ll,F4 hk]at this
 unfold cuB;rw[←Fo,←Fo,Ll,Ll,F4 h8,hp]
theorem r9(v:Ve){l m:List Int}{k:Nat}(h:l.take k=m.take k):(dj v l).take k=(dj v m).take k:=by
 unfold dj;refine D1 _ _ _ _ _ ?_;rw[←Fo,←Fo,h]
theorem Ku(b:Bk)(l:List Int):(KM b l).length=l.length:=by unfold KM;rw[x6,lz]
theorem Lh(b:Bk){l m:List Int}{k:Nat}(h:l.take k=m.take k)(hl:k<=l.length)(hm:k<=m.length):(KM b l).take k=(KM b m).take k:=by
 unfold KM;refine BI _ _ _ _ (by simp) (fun i t u ht hu=>?_) (r9 _ h) (fun t ht=>?_) fun t ht=>?_
 ·rw[Eh]at ht hu
  cases hv:b.vs[i]? with
  |none=>rw[hv]at ht;cases ht
  |some v =>
   rw[hv]at ht hu;cases ht;cases hu;exact r9 v h
 ·obtain⟨v,_,rfl⟩:=Ex.1 ht
  rw[lz];exact hl
 ·obtain⟨v,_,rfl⟩:=Ex.1 ht
  rw[lz];exact hm
def cpf:List Int->List Int->Nat
 |x::p,y::q=>if x=y then cpf p q+1 else 0
 |_,_=>0
theorem Ks:∀p q:List Int,p.take (cpf p q)=q.take (cpf p q)
 |x::p,y::q=>by
  unfold cpf;by_cases h:x=y
  ·rw[DZ h,Lk,Lk,h,Ks p q]
  ·rw[D5 h];rfl
 |[],_=>by simp[cpf]
 |_::_,[]=>by simp[cpf]
theorem cpf_le:∀p q:List Int,cpf p q<=p.length∧cpf p q<=q.length
 |x::p,y::q=>by
  unfold cpf;have:=cpf_le p q
  by_cases h:x=y
  ·rw[DZ h,Ek,Ek];omega
  ·rw[D5 h];omega
 |[],_=>by simp[cpf]
 |_::_,[]=>by simp[cpf]
theorem La:∀(p q:List Int) (i:Nat),i<cpf p q->∃x,p[i]?=some x∧q[i]?=some x
 |x::p,y::q,i,h=>by
  unfold cpf at h;by_cases he:x=y
  ·rw[DZ he]at h
   cases i with
   |zero=>exact⟨x,rfl,by rw[he];rfl⟩
   |succ i=>exact La p q i (by omega)
  ·rw[D5 he]at h;omega
 |[],_,_,h=>by simp[cpf]at h
 |_::_,[],_,h=>by simp[cpf]at h
theorem KW:∀(p q:List Int),cpf p q<p.length->cpf p q<q.length->∃x y,p[cpf p q]?=some x∧q[cpf p q]?=some y∧x≠y
 |x::p,y::q,h1,h2=>by
  unfold cpf at h1 h2 ⊢;by_cases he:x=y
  ·rw[DZ he]at h1 h2 ⊢
   exact KW p q (by simpa using h1) (by simpa using h2)
  ·rw[D5 he]
   exact⟨x,y,rfl,rfl,he⟩
 |[],_,h,_=>by simp[cpf]at h
 |_::_,[],_,h=>by simp[cpf]at h
def p4:CallF:=aE (aE (aE (aE (aE (aE cf0 5 c20) 15 c15u) 16 c16u) 8 c8u) 17 c23) 18 c34
theorem j2:CallFOk prog p4:=ah (ah (ah (ah (ah (ah aa c20_ok) c15u_ok) c16u_ok) c8u_ok) c23_ok) c34_ok
def KG:CallF:=aE (aE (aE (aE (aE (aE p4 20 c20u) 19 c19u) 21 c21u) 22 c37) 23 c23u) 24 c29s
theorem q5:CallFOk prog KG:=ah (ah (ah (ah (ah (ah j2 c20u_ok) c19u_ok) c21u_ok) c37_ok) c23u_ok) c29s_ok
theorem KU(b:Bk)(hbk:b.ok=true)(w:Int)(s:Sty)(hok:s.ok=true)(one two:Int):ab prog 4 [.agg b.cells,ii w,.agg s.cells,ii one,ii two] [] (.ret (.bool true)) []:=by
 refine ab.of0 hTT func4 rfl rfl ?_;have hd:=aS s hok;have hdb:=Kj b hbk;have h1:=ap s.sc;have h2:=ao s.rz;have h3:=bh b.vs;by_cases hr:(12:Int)<s.rz.length
 ·repeat with_reducible first|refine nz j2 ?_|apply ny;simp only[f4,p4,c8u,hr,EW,go_sem];rfl
  exact⟨rfl,rfl,_,rfl,rfl⟩
 by_cases hs:(10:Int)<s.sc.length
 ·repeat with_reducible first|refine nz j2 ?_|apply ny;simp only[f4,p4,c8u,hr,hs,EW,go_sem];rfl
  exact⟨rfl,rfl,_,rfl,rfl⟩
 cases hst:s.story
 ·repeat with_reducible first|refine nz j2 ?_|apply ny;simp only[f4,p4,c8u,c20,hd,hst,hr,hs,h1,h2,EW,go_sem];rfl
  exact⟨rfl,rfl,_,rfl,rfl⟩
 by_cases hv:(8:Int)<b.vs.length
 ·repeat with_reducible first|refine nz j2 ?_|apply ny;simp only[f4,p4,c8u,c20,hd,hst,hr,hs,hv,h1,h2,h3,EW,go_sem];rfl
  exact⟨rfl,rfl,_,rfl,rfl⟩
 cases hB:bkB b
 ·repeat with_reducible first|refine nz j2 ?_|apply ny;simp only[f4,p4,c8u,c15u,c20,hd,hdb,hst,hr,hs,hv,hB,h1,h2,h3,EW,go_sem];rfl
  exact⟨rfl,rfl,_,rfl,rfl⟩
 have hvl:b.vs.length<=1000:=by omega
 cases hN':inB w 0 ((b.vs.length:Int)-1)
 ·repeat with_reducible first|refine nz j2 ?_|apply ny;simp only[f4,p4,c8u,c15u,c16u,c20,hd,hdb,hst,hr,hs,hv,hvl,hB,hN',h1,h2,h3,EW,go_sem];rfl
  exact⟨rfl,rfl,_,rfl,rfl⟩
 have hO:=Sty.story_ok hst;have k2:s.sc.length<=1000:=by have:=hO.s8;omega
 have hP:yz s=.tuple [.sl (plZ (aX s.e s.sc s.rl)) ((aX s.e s.sc s.rl).map slx),ii 0]:=by unfold yz;rw[hst];rfl
 have hP40:=co hO;have g40:¬(40:Int)<((aX s.e s.sc s.rl).length:Int):=by omega
 have n00:((0:Int) != 0)=false:=rfl;have hPc:=aC (aX s.e s.sc s.rl);by_cases ho0:one<0
 ·repeat with_reducible first|refine nz j2 ?_|apply ny;simp only[f4,p4,c8u,c15u,c16u,c20,c23,hd,hdb,hst,hr,hs,hv,hvl,hB,hN',h1,h2,h3,hP,g40,n00,hPc,ho0,EW,go_sem];rfl
  exact⟨rfl,rfl,_,rfl,rfl⟩
 by_cases hol:((aX s.e s.sc s.rl).length:Int)<=one
 ·repeat with_reducible first|refine nz j2 ?_|apply ny;simp only[f4,p4,c8u,c15u,c16u,c20,c23,hd,hdb,hst,hr,hs,hv,hvl,hB,hN',h1,h2,h3,hP,g40,n00,hPc,ho0,hol,EW,EO,go_sem];rfl
  exact⟨rfl,rfl,_,rfl,rfl⟩
 by_cases ht0:two<0
 ·repeat with_reducible first|refine nz j2 ?_|apply ny;simp only[f4,p4,c8u,c15u,c16u,c20,c23,hd,hdb,hst,hr,hs,hv,hvl,hB,hN',h1,h2,h3,hP,g40,n00,hPc,ho0,hol,ht0,EW,EO,go_sem];rfl
  exact⟨rfl,rfl,_,rfl,rfl⟩
 by_cases htl:((aX s.e s.sc s.rl).length:Int)<=two
 ·repeat with_reducible first|refine nz j2 ?_|apply ny;simp only[f4,p4,c8u,c15u,c16u,c20,c23,hd,hdb,hst,hr,hs,hv,hvl,hB,hN',h1,h2,h3,hP,g40,n00,hPc,ho0,hol,ht0,htl,EW,EO,go_sem];rfl
  exact⟨rfl,rfl,_,rfl,rfl⟩
 obtain⟨m1,rfl⟩:∃m:Nat,one=(m:Int):=⟨one.toNat,by omega⟩
 obtain⟨m2,rfl⟩:∃m:Nat,two=(m:Int):=⟨two.toNat,by omega⟩
 obtain⟨p,hp⟩:∃p,(aX s.e s.sc s.rl)[m1]?=some p:=⟨_,DT (by omega)⟩
 obtain⟨q,hq⟩:∃q,(aX s.e s.sc s.rl)[m2]?=some q:=⟨_,DT (by omega)⟩
 have hpm:=DU hp;have hqm:=DU hq;have hp':((aX s.e s.sc s.rl).map slx)[m1]?=some (.sl .a (p.map ii)):=aw hp;have hq':((aX s.e s.sc s.rl).map slx)[m2]?=some (.sl .a (q.map ii)):=aw hq;have hml1:(m1:Int)<((aX s.e s.sc s.rl).length:Int):=by omega
 have hml2:(m2:Int)<((aX s.e s.sc s.rl).length:Int):=by omega
 have hpf:=hO.plays_fine p hpm;have hqf:=hO.plays_fine q hqm;have hap:=Kr hst hpm;have haq:=Kr hst hqm;have hdp:aN (.sl .a (p.map ii))=some p:=aI rfl;have hdq:aN (.sl .a (q.map ii))=some q:=aI rfl;have hcp:=ac p;have hcq:=ac q;have hpl:p.length<=100000:=by omega
 have hql:q.length<=100000:=by omega
 have hzn:=plZ_n (l:=aX s.e s.sc s.rl);have hzz:plZ (aX s.e s.sc s.rl)≠.n:=fun e=>by rw[hzn e]at hp;cases hp
 repeat with_reducible first|(fail_if_success refine am.seq (x:=.region 12 _ _) ?_);(fail_if_success show am _ (.region 12 _ _) _ _);refine nz j2 ?_|apply ny;simp only[f4,p4,c8u,c15u,c16u,c20,c23,c34,hd,hdb,hst,hr,hs,hv,hvl,hB,hN',h1,h2,h3,hP,g40,n00,hPc,ho0,hol,ht0,htl,hp',hq',hml1,hml2,hzz,hap,haq,hdp,hdq,hcp,hcq,hpl,hql,k2,EW,EO,go_sem];rfl
 refine am.keep [15,14,13,7,5,1] (by simp only[go_sem];rfl) ?_
 have hle:=cpf_le p q;refine am.loop (fun i s'=>s'=⟨[(15,ii (i:Nat)),(14,.sl .a (q.map ii)),(13,.sl .a (p.map ii)),(7,.bp 1 0),(5,.bp 0 0),(1,ii w)],273,[.var b.cells false,.var s.cells false]⟩) (cpf p q) (by first|(simp only[go_sem];first|done|rfl)|rfl) ?_
 rintro i _ hi rfl;by_cases hlt:i<cpf p q
 ·obtain⟨x,hx,hy⟩:=La p q i hlt
  have hx':(p.map ii)[i]?=some (ii x):=aw hx;have hy':(q.map ii)[i]?=some (ii x):=aw hy;have l1:(i:Int)<p.length:=by omega
  have l2:(i:Int)<q.length:=by omega
  have e4:=wIs i (by omega)
  repeat with_reducible first|refine nz aa ?_|apply ny;simp only[f4,hx',hy',l1,l2,e4,Fe,go_sem];rfl
  refine ak.t 2 [15,14,13,7,5,1] hlt (by simp only[aF,k5,cm,aA,az,go_sem]) (by first|(simp only[go_sem];first|done|rfl)|rfl)
 obtain rfl:i=cpf p q:=by omega
 have hN:=Ks p q;have hend:=KW p q;refine am.seq ?_;refine am.cutK [129,15,14,13,7,5,1] (tm':=[(129,.bool false),(15,ii (cpf p q:Nat)),(14,.sl .a (q.map ii)),(13,.sl .a (p.map ii)),(7,.bp 1 0),(5,.bp 0 0),(1,ii w)]) (n':=273) (sg':=[.var b.cells false,.var s.cells false]) ?_ ?_
 ·by_cases l1:((cpf p q:Nat):Int)<p.length
  ·by_cases l2:((cpf p q:Nat):Int)<q.length
   ·obtain⟨x,y,hx,hy,hne⟩:=hend (by omega) (by omega)
    have hx':(p.map ii)[cpf p q]?=some (ii x):=aw hx;have hy':(q.map ii)[cpf p q]?=some (ii y):=aw hy;have hxy:(x==y)=false:=EF.2 hne;repeat with_reducible first|refine nz aa ?_|apply ny;simp only[f4,hx',hy',l1,l2,hxy,go_sem];rfl
    exact⟨rfl,rfl,rfl,rfl⟩
   ·repeat with_reducible first|refine nz aa ?_|apply ny;simp only[f4,l1,l2,go_sem];rfl
    exact⟨rfl,rfl,rfl,rfl⟩
  ·repeat with_reducible first|refine nz aa ?_|apply ny;simp only[f4,l1,go_sem];rfl
   exact⟨rfl,rfl,rfl,rfl⟩
 clear hend;generalize cpf p q=N at hN hle ⊢;have hbn:=Bk.num hB;obtain⟨c0,cr,hcup⟩:∃c0 cr,cuB b.cues p=c0::cr:=by
  cases h:cuB b.cues p with
  |nil =>
   have:=y0 b.cues p
   rw[h]at this;have h0:(0:Nat)=min 8 p.length:=this;omega
  |cons x r=>exact⟨x,r,rfl⟩
 obtain⟨d0,dr,hcuq⟩:∃d0 dr,cuB b.cues q=d0::dr:=by
  cases h:cuB b.cues q with
  |nil =>
   have:=y0 b.cues q
   rw[h]at this;have h0:(0:Nat)=min 8 q.length:=this;omega
  |cons x r=>exact⟨x,r,rfl⟩
 have hCp:=KP (b:=b) (p:=p) (by omega) fun x hx=>(hpf.2.2 x hx).1
 have hCq:=KP (b:=b) (p:=q) (by omega) fun x hx=>(hqf.2.2 x hx).1
 rw[hcup]at hCp;rw[hcuq]at hCq;have ezp:emZ (c0::cr)=.a:=rfl;have ezq:emZ (d0::dr)=.a:=rfl;have hpi:(p.all fun x=>inB x 0 99999)=true:=D7.2 fun x hx=>bm.2 (by have:=hpf.2.2 x hx;omega)
 have hqi:(q.all fun x=>inB x 0 99999)=true:=D7.2 fun x hx=>bm.2 (by have:=hqf.2.2 x hx;omega)
 have kc1:0<b.cues:=by omega
 have kc2:b.cues<=1000:=by omega
 have hXp:cplR b w (c0::cr)=.tuple [.sl .a ((dj (b.at' w) (c0::cr)).map ii),ii 0]:=by unfold cplR;rw[hB,hN',hCp];rfl
 have hXq:cplR b w (d0::dr)=.tuple [.sl .a ((dj (b.at' w) (d0::dr)).map ii),ii 0]:=by unfold cplR;rw[hB,hN',hCq];rfl
 have hUp:csuR b (c0::cr)=.tuple [.sl .a ((KM b (c0::cr)).map ii),ii 0]:=by unfold csuR;rw[hB,hCp];rfl
 have hUq:csuR b (d0::dr)=.tuple [.sl .a ((KM b (d0::dr)).map ii),ii 0]:=by unfold csuR;rw[hB,hCq];rfl
 have hlc:(c0::cr).length=min 8 p.length:=by rw[←hcup,y0]
 have hld:(d0::dr).length=min 8 q.length:=by rw[←hcuq,y0]
 have hm8:min N 8<=N∧min N 8<=8:=by omega
 have htk:(c0::cr).take (min N 8)=(d0::dr).take (min N 8):=by rw[←hcup,←hcuq];exact cuB_take hN hm8.1 hm8.2
 have hXY:=r9 (b.at' w) htk;have hUV:=Lh b htk (by omega) (by omega)
 have lX:=lz (b.at' w) (c0::cr);have lY:=lz (b.at' w) (d0::dr);have lU:=Ku b (c0::cr);have lV:=Ku b (d0::dr);have hdc:aN (.sl .a (ii c0::cr.map ii))=some (c0::cr):=aI (z:=.a) (l:=c0::cr) rfl;have hdd:aN (.sl .a (ii d0::dr.map ii))=some (d0::dr):=aI (z:=.a) (l:=d0::dr) rfl;have hcc:=ac cr;have hcd:=ac dr;generalize dj (b.at' w) (c0::cr)=X at *;generalize dj (b.at' w) (d0::dr)=Y at *;generalize KM b (c0::cr)=U at *;generalize KM b (d0::dr)=V at *;have hcX:=ac X;have hcY:=ac Y;have hcU:=ac U;have hcV:=ac V;obtain⟨zF,F,hF,hdF,hFp,hFq,hkF⟩:∃(zF:Z) (F:List Int),r8 s (p.take N)=.tuple [.sl zF (F.map ii),ii 0]∧aN (.sl zF (F.map ii))=some F∧(∀x,p[N]?=some x->(F.any fun y=>y==x)=true)∧(∀x,q[N]?=some x->(F.any fun y=>y==x)=true)∧F.length<=s.sc.length:=by
  have ha:Do s.sc.length (p.take N) 0=true:=areB_of (by rw[En];omega) fun y hy=>by
   have:=hpf.2.2 y (Ey hy)
   omega
  have hmem:∀(r:List Int),r∈aX s.e s.sc s.rl->r.take N=p.take N->∀x,r[N]?=some x->((u4 s.sc.length (aX s.e s.sc s.rl) (p.take N)).any fun y=>y==x)=true:=fun r hr ht x hx=>by
   have hNr:=(DR.1 hx).1;have hx0:=(hO.plays_fine r hr).2.2 x (DU hx);refine List.any_eq_true.2 ⟨x,Ky.2 ⟨⟨hx0.1,hx0.2⟩,Kd.2 ⟨r,hr,?_,?_,?_⟩⟩,Fe x⟩
   ·rw[En];omega
   ·rw[En,F4 hle.1];exact ht
   ·rw[En,F4 hle.1];exact hx
  refine⟨_,u4 s.sc.length (aX s.e s.sc s.rl) (p.take N),?_,aI (qy fun e=>isZ_n e),hmem p hpm rfl,hmem q hqm hN.symm,foll_len _ _ _⟩
  unfold r8;rw[hst,ha];rfl
 have hcF:=ac F;have ht1:List.take N (p.map ii)=(p.take N).map ii:=Fo.symm;have hdt:aN (.sl .a ((p.take N).map ii))=some (p.take N):=aI rfl;have hct:=ac (p.take N);have r0:(0:Int)<=(N:Nat):=by omega
 have r1:((N:Nat):Int)<=(p.length:Int):=by omega
 have hmin:(if(8:Int)<((N:Nat):Int)then(8:Int)else((N:Nat):Int))=((min N 8:Nat):Int):=by
  by_cases h:(8:Int)<((N:Nat):Int)
  ·rw[DZ h];omega
  ·rw[D5 h];omega
 have hL1:min N 8<=X.length:=by omega
 have hL2:min N 8<=Y.length:=by omega
 have hL3:min N 8<=U.length:=by omega
 have hL4:min N 8<=V.length:=by omega
 have hL8:min N 8<=8:=by omega
 clear lX lY lU lV hlc hld htk hm8;generalize min N 8=L at *;have g1:¬((X.length:Int)<(L:Int)):=by omega
 have g2:¬((Y.length:Int)<(L:Int)):=by omega
 have g3:¬((U.length:Int)<(L:Int)):=by omega
 have g4:¬((V.length:Int)<(L:Int)):=by omega
 have g5:¬((s.sc.length:Int)<(F.length:Int)):=by omega
 repeat with_reducible first|(fail_if_success refine am.seq (x:=.region 22 _ _) ?_);(fail_if_success show am _ (.region 22 _ _) _ _);refine nz q5 ?_|apply ny;simp only[f4,KG,p4,c20u,c19u,c21u,c37,hd,hdb,hdp,hdq,hcup,hcuq,hdc,hdd,ezp,ezq,hpi,hqi,kc1,kc2,hpl,hql,hXp,hXq,hUp,hUq,hF,hdt,ht1,hct,gE,lq,n00,r0,r1,h1,h2,h3,hcp,hcq,hcc,hcd,hcX,hcY,hcU,hcV,hcF,hmin,g1,g2,g3,g4,g5,EW,go_sem];rfl
 refine am.keep [26,24,22,20,18,16,15,14,13,7,5] (by simp only[go_sem];rfl) ?_
 have hFl:F.length<=100000:=by omega
 refine am.cutK [253,26,22,20,18,16] (tm':=[(253,.bool false),(26,ii (L:Nat)),(22,.sl .a (V.map ii)),(20,.sl .a (U.map ii)),(18,.sl .a (Y.map ii)),(16,.sl .a (X.map ii))]) (n':=273) (sg':=[.var b.cells false,.var s.cells false,.dead,.dead,.dead,.dead,.dead,.dead,.dead,.dead,.dead]) ?_ ?_
 ·by_cases l1:((N:Nat):Int)<p.length
  ·obtain⟨x,hx⟩:∃x,p[N]?=some x:=⟨_,DT (by omega)⟩
   have hx':(p.map ii)[N]?=some (ii x):=aw hx;have hhx:=hFp x hx;by_cases l2:((N:Nat):Int)<q.length
   ·obtain⟨y,hy⟩:∃y,q[N]?=some y:=⟨_,DT (by omega)⟩
    have hy':(q.map ii)[N]?=some (ii y):=aw hy;have hhy:=hFq y hy;repeat with_reducible first|refine nz q5 ?_|apply ny;simp only[f4,KG,p4,c23u,hdF,hFl,hx',hy',hhx,hhy,l1,l2,hcF,hcp,hcq,go_sem];rfl
    exact⟨rfl,rfl,rfl,rfl⟩
   ·repeat with_reducible first|refine nz q5 ?_|apply ny;simp only[f4,KG,p4,c23u,hdF,hFl,hx',hhx,l1,l2,hcF,hcp,hcq,go_sem];rfl
    exact⟨rfl,rfl,rfl,rfl⟩
  ·by_cases l2:((N:Nat):Int)<q.length
   ·obtain⟨y,hy⟩:∃y,q[N]?=some y:=⟨_,DT (by omega)⟩
    have hy':(q.map ii)[N]?=some (ii y):=aw hy;have hhy:=hFq y hy;repeat with_reducible first|refine nz q5 ?_|apply ny;simp only[f4,KG,p4,c23u,hdF,hFl,hy',hhy,l1,l2,hcF,hcp,hcq,go_sem];rfl
    exact⟨rfl,rfl,rfl,rfl⟩
   ·repeat with_reducible first|refine nz q5 ?_|apply ny;simp only[f4,l1,l2,hcF,hcp,hcq,go_sem];rfl
    exact⟨rfl,rfl,rfl,rfl⟩
 have tX:List.take L (X.map ii)=(X.take L).map ii:=Fo.symm;have tY:List.take L (Y.map ii)=(Y.take L).map ii:=Fo.symm;have tU:List.take L (U.map ii)=(U.take L).map ii:=Fo.symm;have tV:List.take L (V.map ii)=(V.take L).map ii:=Fo.symm;have dX:aN (.sl .a ((X.take L).map ii))=some (X.take L):=aI rfl;have dY:aN (.sl .a ((Y.take L).map ii))=some (Y.take L):=aI rfl;have dU:aN (.sl .a ((U.take L).map ii))=some (U.take L):=aI rfl;have dV:aN (.sl .a ((V.take L).map ii))=some (V.take L):=aI rfl;have mX:min L X.length<=maxLen:=by unfold maxLen;omega
 have mU:min L U.length<=maxLen:=by unfold maxLen;omega
 have eXY:decide (X.take L=Y.take L)=true:=Ej hXY;have eUV:decide (U.take L=V.take L)=true:=Ej hUV;have s0:(0:Int)<=(L:Nat):=by omega
 have s1:((L:Nat):Int)<=(X.length:Int):=by omega
 have s2:((L:Nat):Int)<=(Y.length:Int):=by omega
 have s3:((L:Nat):Int)<=(U.length:Int):=by omega
 have s4:((L:Nat):Int)<=(V.length:Int):=by omega
 have cX:=ac (X.take L);have cY:=ac (Y.take L);have cU:=ac (U.take L);have cV:=ac (V.take L);repeat with_reducible first|refine nz q5 ?_|apply ny;simp only[f4,KG,p4,c29s,c8u,tX,tY,tU,tV,dX,dY,dU,dV,mX,mU,eXY,eUV,s0,s1,s2,s3,s4,cX,cY,cU,cV,hcX,hcY,hcU,hcV,gE,lq,go_sem];rfl
 exact⟨rfl,rfl,_,rfl,rfl⟩
end Go.Pv
