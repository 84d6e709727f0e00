import Derived.Test.YtmebonambbhehaaGreatQgTell
set_option linter.all false
open Go.Proofs.Tryz
namespace Go.Pv
open Go Go.RowKit Go.Proofs
set_option maxRecDepth 200000
set_option maxHeartbeats 8000000
theorem ab.ofE{P:Program}{T:TypeId->TyI}(hT:TyT P T){f:FuncId}{fn:Func}{c:Code}{args:List PV}{sg:List Box}{n0:Nat}{v:PV}{α:Type}(Gx:α->List Box)(H:α->Prop)(hf:P.funcs[f]?=some fn)(hb:fn.body=some c)(hn0:n0=args.length+(fn.ntmps-args.length))
 (hrun:am P c ⟨ik 0 args,n0,sg⟩ (fun o st'=>o.ends=true∧SameLoops sg st'.sg∧si T st' fn.results=some v∧∃x C,H x∧st'.sg=Gx x++C)) (hlen:∀x,H x->(Gx x).length=sg.length) (hlt:∀x,H x->∀b∈Gx x,b.Lt sg.length) (hv:Pv.Lt sg.length v):∃x,H x∧ab P f args sg (.ret v) (Gx x):=by
 obtain⟨o,st',hr,h1,h2,h3,x,C,hx,h4⟩:=hrun;exact⟨x,hx,ab.ofB hT hf hb hn0 ⟨o,st',hr,h1,h2,h3,C,h4⟩ (hlen x hx) (hlt x hx) hv⟩
def cfL:CallF:=aE (aE cf0 86 c147) 115 c203
theorem gz:CallFOk prog cfL:=ah (ah aa yy) ym
theorem der_step{Y:List PV->List Box->Bool->List Box->Prop}(e:Int)(zs:Z)(sc lc:List PV)(mm:List Int)(zr:Z)(rz:List Rz)(id k0 f:Nat)(hcl:ad (gk e (.sl zs sc) (.sl zr (rz.map aT)) mm (.sl .a lc))=true)(hzr:zOk zr (rz.map aT)=true)(hrz:rzIn mm rz=true)(hrl:rz.length<=1000)(he:-1000<=e∧e<=1000)(hmm:mm.length<=1000)(hid:id<k0)(hYl:YLeaf id Y)
 (IH:DerP Y e (.sl zs sc) (.sl .a lc) mm zr rz id k0 f):DerP Y e (.sl zs sc) (.sl .a lc) mm zr rz id k0 (f+1):=by
 intro zl list l d z low low' B0 K b hzl hne hfb hx hwt hd1 hdl hlb hdb hz hk hK h0 hB hfold;unfold DerP at IH;obtain⟨fnv,hfv⟩:∃fnv,fnv=PV.fn (.func 113) [] [.ip (gk e (.sl zs sc) (.sl zr (rz.map aT)) mm (.sl .a lc)),.bp k0 0,.bp (k0+1) 0,.bp (k0+2) 0]:=⟨_,rfl⟩;rw[←hfv]at IH ⊢;have hfn:∀n,k0+4<=n->Pv.Lt n fnv:=fun n hn=>by
  rw[hfv];refine .fn (fun c hc=>by cases hc) fun c hc=>?_
  simp only[D6,Eb,EM]at hc;rcases hc with rfl|rfl|rfl|rfl
  ·exact(av _ (show(PV.ip _).closed=true from hcl)).mono (Ee _)
  ·exact .bp (by omega)
  ·exact .bp (by omega)
  ·exact .bp (by omega)
 have hll:list.length<=100000:=by have:=AB e list;omega
 cases hf:bN e list with
 |none =>
  have hd:=hd1 hf;have hz0:z=false:=by
   cases z with
   |false=>rfl
   |true=>rw[hz rfl]at hdl;simp at hdl;omega
  subst hz0;have hg:tZ (l.take d) (Mj e (okM mm) (rz.map (·.2)) (f+1) list)=[[.agg [.sl .a ((l.take d).map ii),.sl .a ((list.map (·-e)).map ii)]]]:=by
   rw[Mj,hf]
   show[[PV.agg [.sl .a ((l.take d++bH []).map ii),_]]]=_
   rw[show l.take d++bH []=l.take d from Er _]
  rw[hg]at hfold;have hY:Y [.agg [.sl .a ((l.take d).map ii),.sl .a ((list.map (·-e)).map ii)]] low b low':=by
   cases hfold with
   |stop h=>exact h
   |next h k=>cases k;exact h
  exact⟨_,_,l,fun _=>⟨rfl,rfl,hdl,hlb,fun h=>by cases h⟩,.pf (by omega),der_base id k0 K hYl fnv e (.sl zs sc) _ (.sl .a lc) mm zl list l d low low' B0 b hcl hzl hne hll (fun x hx1=>by have:=hx x hx1;omega) he hf hd hdl (by omega) hk hK h0 hB (hfn K (by omega)) hid hY⟩
 |some a =>
  obtain⟨ha1,ha2⟩:=fe hf;obtain⟨R,hR⟩:∃R,R=l.take d:=⟨_,rfl⟩;rw[←yH hf,←hR]at hfold;have hidx:ab prog 74 [.sl zl (list.map ii),.fn (.func 114) [] [.ip (gk e (.sl zs sc) (.sl zr (rz.map aT)) mm (.sl .a lc))]] [] (.ret (ii (a:Nat))) []:=by
   have:=mO (g:=114) (cs:=[.ip (gk e (.sl zs sc) (.sl zr (rz.map aT)) mm (.sl .a lc))]) (S:=[]) zl list (fun n=>decide (n<e)) (ent func114 rfl) (fun b hb=>by cases hb) (ae 0 _ (by simpa[ad,PV.closed]using hcl)) (fun h=>absurd h hzl) (by omega) (fun x _=>oA e (.sl zs sc) _ (.sl .a lc) mm x)
   rw[jS,hf]at this;simpa using this
  have hil:bD 0 [PV.sl zl (list.map ii),.fn (.func 114) [] [.ip (gk e (.sl zs sc) (.sl zr (rz.map aT)) mm (.sl .a lc))]]=true:=ae 0 _ (by
   have h1:=cV list;have h2:ad [PV.ip (gk e (.sl zs sc) (.sl zr (rz.map aT)) mm (.sl .a lc))]=true:=by simpa[ad,PV.closed]using hcl
   simp only[ad,PV.closed,h1]at h2 ⊢;simpa using h2)
  have hm1:((a:Int)<0)=False:=by simp
  obtain⟨hl',h0'⟩:=hYl.lens hfold h0;have hk':low'.length=k0:=by omega
  suffices hw:∃x:PV×Bool×List Int,((b=true->x.1=.pf (k0+3) d x.2.2.length∧x.2.2.take d=l.take d∧d<=x.2.2.length∧x.2.2.length<=100000∧(x.2.1=true->x.2.2=[]))∧Pv.Lt (k0+4) x.1) ∧
   ab prog 113 [.sl zl (list.map ii),.ip (gk e (.sl zs sc) (.sl zr (rz.map aT)) mm (.sl .a lc)),.bp k0 0,.bp (k0+1) 0,.bp (k0+2) 0] (stk id fnv B0 low (.pf (k0+3) d l.length) z (l.map ii) []) (.ret (.bool b)) (stk id fnv B0 low' x.1 x.2.1 (x.2.2.map ii) [])by
   obtain⟨⟨v',z',l'⟩,⟨w1,w2⟩,w3⟩:=hw;exact⟨v',z',l',w1,w2,w3⟩
  refine ab.ofE hTT (fun x:PV×Bool×List Int=>stk id fnv B0 low' x.1 x.2.1 (x.2.2.map ii) []) _ func113 rfl rfl ?_ (fun x _=>by rw[stkL hk hK,stkL hk' hK]) (fun x hx=>by rw[stkL hk hK];exact jM hk' hK h0' hid (hx.2.mono (by simp;omega)) (hfn K (by omega)) (cV _) hB (fun x hx=>by cases hx)) .bool
  have g0:=stk0 (id:=id) (fnv:=fnv) (B0:=B0) hk;have g1:=stk1 (id:=id) (fnv:=fnv) (B0:=B0) hk;have g3:=stk3 (id:=id) (fnv:=fnv) (B0:=B0) hk;repeat with_reducible first|(fail_if_success refine am.seq (x:=.region 1 _ _) ?_);(fail_if_success show am _ (.region 1 _ _) _ _);refine nz aa ?_|apply ny;simp only[f113,go_sem];rfl
  refine am.scope ?_;repeat with_reducible first|refine nz (aj aa (ent func74 rfl) hidx hil) ?_|apply ny;simp only[f113,eA,bl,hm1,go_sem];rfl
  refine am.keep [43,42,7,6,0,1,2,3,4] (by simp only[go_sem];rfl) ?_
  obtain⟨I,hI⟩:∃I:Nat->St->Prop,I=(fun i s'=>∃(lw:List Box) (l1:List Int) (z1:Bool),lw.length=k0∧OwnOk 0 lw∧SameLoops (stk id fnv B0 low (.pf (k0+3) d l.length) z (l.map ii) []) (stk id fnv B0 lw (.pf (k0+3) d l1.length) z1 (l1.map ii) [])∧l1.take d=R∧d<=l1.length∧l1.length<=100000∧(z1=true->l1=[]) ∧
   FoldR Y (tZ R (nj e mm (rz.map (·.2)) f list a i)) lw b low' ∧
   s'=⟨[(43,ii i),(42,ii rz.length),(7,ii a),(6,.bool false),(0,.sl zl (list.map ii)),(1,.ip (gk e (.sl zs sc) (.sl zr (rz.map aT)) mm (.sl .a lc))),(2,.bp k0 0),(3,.bp (k0+1) 0),(4,.bp (k0+2) 0)],89,stk id fnv B0 lw (.pf (k0+3) d l1.length) z1 (l1.map ii) []⟩):=⟨_,rfl⟩
  refine am.loop I rz.length (by rw[hI];exact⟨low,l,z,hk,h0,SameLoops.refl _,hR.symm,hdl,hlb,hz,hfold,rfl⟩) ?_
  clear hfold g0 g1 g3;intro i s hi hs;rw[hI]at hs;obtain⟨lw,l1,z1,hlw,hlw0,hsl,hl1,hdl1,hlb1,hz1,hfold,rfl⟩:=hs;have fin:∀(Q:Out->St->Prop) (k1:Nat) (lw1:List Box) (l2:List Int) (z2:Bool) (C:List Box) (tm:List (Nat×PV)),i<rz.length->k1<=K->lw1.length=k0->OwnOk 0 lw1->SameLoops (stk id fnv B0 low (.pf (k0+3) d l.length) z (l.map ii) []) (stk id fnv B0 lw1 (.pf (k0+3) d l2.length) z2 (l2.map ii) [])->l2.take d=R->d<=l2.length->l2.length<=100000->(z2=true->l2=[]) ->
   FoldR Y (tZ R (nj e mm (rz.map (·.2)) f list a (i+1))) lw1 b low'->dl C=true ->
   iK [43,42,7,6,0,1,2,3,4] tm=[(43,ii ((i+1:Nat):Int)),(42,ii rz.length),(7,ii a),(6,.bool false),(0,.sl zl (list.map ii)),(1,.ip (gk e (.sl zs sc) (.sl zr (rz.map aT)) mm (.sl .a lc))),(2,.bp k0 0),(3,.bp (k0+1) 0),(4,.bp (k0+2) 0)] ->
   ak prog I rz.length i k1 Q .normal ⟨tm,89,stk id fnv B0 lw1 (.pf (k0+3) d l2.length) z2 (l2.map ii) C⟩:=by
   intro Q k1 lw1 l2 z2 C tm hlt hk1 a1 a2 a3 a4 a5 a6 a7 a8 hC hkp;have hL:=stkL (id:=id) (fnv:=fnv) (B0:=B0) a1 hK;refine ak.cutS [43,42,7,6,0,1,2,3,4] (stk id fnv B0 lw1 (.pf (k0+3) d l2.length) z2 (l2.map ii) []) C hlt (by rw[stkA];rfl) (by rw[hL];simpa using hk1) hkp ?_ ?_ hC (by rw[hI];exact⟨lw1,l2,z2,a1,a2,a3,a4,a5,a6,a7,a8,rfl⟩)
   ·rw[hL]
    intro p hp;simp only[D6,Eb,EM]at hp;rcases hp with rfl|rfl|rfl|rfl|rfl|rfl|rfl|rfl|rfl
    ·exact .int
    ·exact .int
    ·exact .int
    ·exact .bool
    ·exact(av _ (show(PV.sl zl (list.map ii)).closed=true from cV list)).mono (Ee _)
    ·exact(av _ (show(PV.ip _).closed=true from hcl)).mono (Ee _)
    ·exact .bp (by simp;omega)
    ·exact .bp (by simp;omega)
    ·exact .bp (by simp;omega)
   ·rw[hL]
    exact jM a1 hK a2 hid (.pf (by simp;omega)) (hfn K (by omega)) (cV _) hB (fun x hx=>by cases hx)
  have g0:=stk0 (id:=id) (fnv:=fnv) (B0:=B0) hlw;have g1:=stk1 (id:=id) (fnv:=fnv) (B0:=B0) hlw;have g2:=stk2 (id:=id) (fnv:=fnv) (B0:=B0) hlw;have g2v:∀v z es C,(stk id fnv B0 lw v z es C)[k0+2]?=some (.var [.fn (.func 113) [] [.ip (gk e (.sl zs sc) (.sl zr (rz.map aT)) mm (.sl .a lc)),.bp k0 0,.bp (k0+1) 0,.bp (k0+2) 0]] false):=fun v z es C=>(g2 v z es C).trans (by rw[hfv])
  have g3:=stk3 (id:=id) (fnv:=fnv) (B0:=B0) hlw;have s1:=stkS1 (id:=id) (fnv:=fnv) (B0:=B0) hlw;have s3:=stkS3 (id:=id) (fnv:=fnv) (B0:=B0) hlw;have gL:=stkL (id:=id) (fnv:=fnv) (B0:=B0) hlw hK;have gG:=stkG (id:=id) (fnv:=fnv) (B0:=B0) hlw hK;have gG0:=stkG0 (id:=id) (fnv:=fnv) (B0:=B0) hlw hK;have gS:=stkS (id:=id) (fnv:=fnv) (B0:=B0) hlw hK;have gS0:=stkS0 (id:=id) (fnv:=fnv) (B0:=B0) hlw hK;have gA:=stkA id fnv B0 lw;have hadd:∀n m:Nat,K+n+m=K+(n+m):=fun n m=>FF _ _ _
  by_cases hlt:i<rz.length
  ·obtain⟨q,hq⟩:=gex hlt
   have hq':(rz.map aT)[i]?=some (.agg [ii q.2.frm,.sl q.1 (q.2.to.map ii)]):=aw hq;have hrq:(rz.map (·.2))[i]?=some q.2:=aw hq
   have hlt':(i:Int)<rz.length:=by omega
   obtain⟨c1,c2,c3,c4⟩:=rzIn_at hrz (DU hq);have hzr':zr≠.n:=fun e=>by rw[bd hzr e]at hlt;simp at hlt
   have hqz:q.1≠.n:=fun e=>by rw[bd c1 e]at c2;simp at c2
   have e4:=wIs i (by omega)
   have hga:=eh (l:=list) (i:=a) ha1;have hdt:=rA e (.sl zs sc) (.sl zr (rz.map aT)) mm (.sl .a lc);have hdq:mJ (.agg [ii q.2.frm,.sl q.1 (q.2.to.map ii)])=some q:=jR q;have hq3:q.2.to.length<=1000:=by omega
   have hq4:(q.2.to.all fun x=>decide (0<=x∧x<mm.length))=true:=D7.2 fun x hx=>Ej (c4 x hx).2
   have hsc:ad sc=true∧ad lc=true:=by
    have h:=hcl;simp only[ad,PV.closed,cV,ao,EJ,Fi,D3]at h;exact h
   obtain⟨hss,hlv⟩:=hsc;rw[AQ hrq]at hfold;by_cases hfr:q.2.frm=list.getD a 0
   ·have hfr':(q.2.frm != list.getD a 0)=false:=by rw[hfr];simp
    cases hen:pA mm q.2.to with
    |false =>
     rw[D5 (fun h=>by rw[hen]at h;cases h.2)]at hfold
     repeat with_reducible first|refine nz gz ?_|apply ny;simp only[f113,hlt',hq',hzr',hzl,hga,hfr',hen,hdt,hdq,hss,hlv,cV,ao,c1,hq3,hq4,cfL,c147,gG,gG0,gS,gS0,gL,gA,e4,hadd,go_sem];rfl
     exact fin _ _ lw l1 z1 _ _ hlt (by simp only[gL,go_sem]) hlw hlw0 hsl hl1 hdl1 hlb1 hz1 hfold rfl (by simp only[go_sem])
    |true =>
     rw[DZ ⟨hfr,hen⟩,resD_app,yM]at hfold;repeat with_reducible first|(fail_if_success refine am.seq (x:=.region 15 _ _) ?_);(fail_if_success show am _ (.region 15 _ _) _ _);refine nz gz ?_|apply ny;simp only[f113,hlt',hq',hzr',hzl,hga,hfr',hen,hdt,hdq,hss,hlv,cV,ao,c1,hq3,hq4,cfL,c147,gG,gG0,gS,gS0,gL,gA,e4,hadd,go_sem];rfl
     have happ:∀C fid,ed TT (stk id fnv B0 lw (.pf (k0+3) d l1.length) z1 (l1.map ii) C) fid 28 (.pf (k0+3) d l1.length) (.sl .f [ii (i:Nat)])=some (.pf (k0+3) (d+1) (pt l1 d i).length,some (k0+3,.row false 3 1 ((pt l1 d i).map ii) false)):=fun C fid=>app_pf (g3 _ _ _ _) hdl1 hz1 hlb1
     have hpt:=qF (l:=l1) (d:=d) (i:=(i:Int)) hdl1;have hpn:=putL_len (l:=l1) (d:=d) (i:=(i:Int)) hdl1;rw[hl1]at hpt;generalize pt l1 d i=l2 at happ hpt hpn;have happ2:=happ [] 0;simp only[g3,go_sem,DX]at happ2;repeat with_reducible first|(fail_if_success refine am.seq (x:=.region 16 _ _) ?_);(fail_if_success show am _ (.region 16 _ _) _ _);refine nz gz ?_|apply ny;simp only[f113,happ2,g0,g1,g2,g3,s1,s3,gL,gA,hadd,go_sem];rfl
     have hta:(list.map ii).take a=(list.take a).map ii:=Fo.symm;have hdr:(list.map ii).drop (a+1)=(list.drop (a+1)).map ii:=List.map_drop.symm;have htd:((list.drop (a+1)).map ii).take (list.length-(a+1))=(list.drop (a+1)).map ii:=EQ (by simp)
     obtain⟨L3,hL3⟩:∃L3:List Qi,L3=[(.a,list.take a),(q.1,q.2.to),(.a,list.drop (a+1))]:=⟨_,rfl⟩;have hdL:dM decQ [.sl .a ((list.take a).map ii),.sl q.1 (q.2.to.map ii),.sl .a ((list.drop (a+1)).map ii)]=some L3:=by rw[hL3];exact decQs [(.a,list.take a),(q.1,q.2.to),(.a,list.drop (a+1))]
     have hzL:zOk .f (L3.map sf)=true:=rfl;have hqL:qsB L3=true:=by rw[hL3];simp[qsB,zOk,c1]
     have hcat:gP L3=iy list a q.2.to:=by rw[hL3,cat3];rfl
     have hL3l:L3.length<=1000:=by rw[hL3];show 3<=1000;omega
     obtain⟨pl,hpl⟩:∃pl,pl=iy list a q.2.to:=⟨_,rfl⟩;rw[←hpl]at hcat;have hpw:wtF e pl<wtF e list:=by rw[hpl];exact wt_put ha1 ha2 c3 (fun x hx=>by have:=(c4 x hx).1;rw[hfr]at this;exact this)
     have hpl1:pl.length<=wtF e pl:=AB e pl;have hpne:pl≠[]:=fun h=>by
      have h1:(iy list a q.2.to).length=0:=by rw[←hpl,h];rfl
      unfold iy at h1;simp only[Ea]at h1;omega
     have hcn:gP L3≠[]:=by rw[hcat];exact hpne
     have hcl3:pl.length<=100000:=by omega
     have hpx:∀x∈pl,0<=x∧x<mm.length:=by
      have h1:InF mm.length list:=hx;have h2:InF mm.length q.2.to:=fun x hx=>(c4 x hx).2
      rw[hpl];exact mo h1 h2
     have e5:=wIs a (by omega)
     have ha3:(a:Int)<=(list.length:Int):=by omega
     have ha4:((a+1:Nat):Int)<=(list.length:Int):=by omega
     have rcall:∀(b1:Bool) (lwx:List Box),FoldR Y (tZ (R++[(i:Int)]) (Mj e (okM mm) (rz.map (·.2)) f pl)) lw b1 lwx->∃v' z' l',(b1=true->v'=.pf (k0+3) (d+1) l'.length∧l'.take (d+1)=l2.take (d+1)∧d+1<=l'.length∧l'.length<=100000∧(z'=true->l'=[]))∧Pv.Lt (k0+4) v' ∧
      ab prog 113 [.ms (K+3) pl.length,.ip (gk e (.sl zs sc) (.sl zr (rz.map aT)) mm (.sl .a lc)),.bp k0 0,.bp (k0+1) 0,.bp (k0+2) 0] (stk id fnv B0 lw (.pf (k0+3) (d+1) l2.length) false (l2.map ii) [.var [ii q.2.frm,.sl q.1 (q.2.to.map ii)] false,.dead,.dead,.row false 3 1 (pl.map ii) false,.dead]) (.ret (.bool b1))
       (stk id fnv B0 lwx v' z' (l'.map ii) [.var [ii q.2.frm,.sl q.1 (q.2.to.map ii)] false,.dead,.dead,.row false 3 1 (pl.map ii) true,.dead]) ∧
      SameLoops (stk id fnv B0 lw (.pf (k0+3) (d+1) l2.length) false (l2.map ii) [.var [ii q.2.frm,.sl q.1 (q.2.to.map ii)] false,.dead,.dead,.row false 3 1 (pl.map ii) false,.dead]) (stk id fnv B0 lwx v' z' (l'.map ii) [.var [ii q.2.frm,.sl q.1 (q.2.to.map ii)] false,.dead,.dead,.row false 3 1 (pl.map ii) true,.dead]):=by
      intro b1 lwx hf1;have hB2:∀x∈B0++[Box.var [ii q.2.frm,.sl q.1 (q.2.to.map ii)] false,.dead,.dead,.row false 3 1 (pl.map ii) true,.dead],x.Lt (K+5):=by
       intro x hx;rcases Ez.1 hx with hx|hx
       ·exact(hB x hx).mono (by omega)
       ·simp only[D6,Eb,EM]at hx
        rcases hx with rfl|rfl|rfl|rfl|rfl
        ·exact(dD (show(Box.var [ii q.2.frm,.sl q.1 (q.2.to.map ii)] false).ltB 0=true from ae 0 _ (by simp[ad,PV.closed,cV]))).mono (Ee _)
        ·exact trivial
        ·exact trivial
        ·exact(dD (show(Box.row false 3 1 (pl.map ii) true).ltB 0=true from ae 0 _ (cV _))).mono (Ee _)
        ·exact trivial
      obtain⟨v',z',l',w1,w2,w3⟩:=IH .a pl l2 (d+1) false lw lwx (B0++[Box.var [ii q.2.frm,.sl q.1 (q.2.to.map ii)] false,.dead,.dead,.row false 3 1 (pl.map ii) true,.dead]) (K+5) b1 (by decide) hpne (by omega) hpx (by omega) (fun _=>by omega) hpn.1 (by omega) (by omega) (fun h=>by cases h) hlw (by simp;omega) hlw0 hB2 (by rw[hpt];exact hf1)
      rw[←stkB,←stkB,Er]at w3;refine⟨v',z',l',w1,w2,call_stk (p:=3) hlw hK rfl (cV pl) (DX ..) (fun sg=>rfl) w3,?_⟩
      exact gd hYl.toYOk hf1 hlw hK hid (.pf (by omega)) (hfn K (by omega)) (cV _) hB rfl rfl
     have hnd:[k0+2,K,K+3,K+4,k0,k0+1].Nodup:=by simp;omega
     rcases FoldR.split hfold with ⟨rfl,hf1⟩|⟨lw1,hf1,hf2⟩
     ·rw[←hpl]at hf1
      obtain⟨v',z',l',w1,w2,w3,w4⟩:=rcall false low' hf1;refine am.seq ?_;refine am.drawn [] hTT (ar gz (ent func113 rfl) w3 w4) cP mixed (by kernel_rfl) (by simp only[gA,gL,go_sem];rfl) ?_
      iterate 12 (apply AZ.step;(focus (simp only[f113,g0,g1,g2v,g3,gG,gG0,gS,gS0,gL,gA,hadd,ha3,ha4,e5,hzl,hta,hdr,htd,hdL,hzL,hqL,hpne,hcl3,hL3l,hcat,cp,cfL,c203,c147,gE,all_t,cV,go_sem];with_reducible rfl)))
      refine AZ.full rfl (by simp only[go_sem]) (by simp only[go_sem]) (by simp only[gG,gG0,gS,gS0,hadd,cV,go_sem]) (by simp only[cp,go_sem];rfl) ?_
      apply AZ.step
      ·simp only[go_sem];rfl
      refine AZ.nil ⟨fJ [k0+2,K,K+3,K+4,k0,k0+1] [(false,none,[0]),(false,none,[]),(false,none,[]),(false,none,[]),(false,none,[1]),(false,none,[1]),(false,none,[]),(false,none,[]),(false,none,[]),(false,none,[]),(false,none,[]),(false,some 2,[2]),(true,none,[3,4,5,0,2]),(false,none,[])] hnd (by kernel_rfl) rfl (by kernel_rfl),?_⟩
      repeat with_reducible first|refine nz aa ?_|apply ny;simp only[f113,go_sem];rfl
      refine⟨(fun l e=>by cases e),rfl,?_,rfl,(v',z',l'),[.var [ii q.2.frm,.sl q.1 (q.2.to.map ii)] false,.dead,.dead,.row false 3 1 (pl.map ii) true,.dead],⟨(fun h=>by cases h),w2⟩,by rw[stkA];rfl⟩
      exact hsl.trans (gd hYl.toYOk hf1 hlw hK hid (.pf (by omega)) (hfn K (by omega)) (cV _) hB rfl rfl)
     ·rw[←hpl]at hf1
      obtain⟨hlw1,hlw10⟩:=hYl.lens hf1 hlw0;have hk1:lw1.length=k0:=by omega
      obtain⟨v',z',l',w1,w2,w3,w4⟩:=rcall true lw1 hf1;obtain⟨rfl,w5,w6,w7,w8⟩:=w1 rfl;have hz':z'=false:=by
       cases z' with
       |false=>rfl
       |true=>rw[w8 rfl]at w6;simp at w6
      subst hz';have e6:IntKind.i64.wrap (((d+1:Nat):Int)-1)=(d:Int):=by
       have:((d+1:Nat):Int)-1=(d:Int):=by omega
       rw[this];exact ai (by omega) (by omega)
      have q0:(0:Int)<=(d:Int):=by omega
      have q1:(d:Int)<=((d+1:Nat):Int):=by omega
      have g1':=stk1 (id:=id) (fnv:=fnv) (B0:=B0) hk1;have g3':=stk3 (id:=id) (fnv:=fnv) (B0:=B0) hk1;have s1':=stkS1 (id:=id) (fnv:=fnv) (B0:=B0) hk1;refine am.seq ?_;refine am.drawn [] hTT (ar gz (ent func113 rfl) w3 w4) cP mixed (by kernel_rfl) (by simp only[gA,gL,go_sem];rfl) ?_
      iterate 12 (apply AZ.step;(focus (simp only[f113,g0,g1,g2v,g3,gG,gG0,gS,gS0,gL,gA,hadd,ha3,ha4,e5,hzl,hta,hdr,htd,hdL,hzL,hqL,hpne,hcl3,hL3l,hcat,cp,cfL,c203,c147,gE,all_t,cV,go_sem];with_reducible rfl)))
      refine AZ.full rfl (by simp only[go_sem]) (by simp only[go_sem]) (by simp only[gG,gG0,gS,gS0,hadd,cV,go_sem]) (by simp only[cp,go_sem];rfl) ?_
      apply AZ.step
      ·simp only[go_sem];rfl
      refine AZ.nil ⟨fJ [k0+2,K,K+3,K+4,k0,k0+1] [(false,none,[0]),(false,none,[]),(false,none,[]),(false,none,[]),(false,none,[1]),(false,none,[1]),(false,none,[]),(false,none,[]),(false,none,[]),(false,none,[]),(false,none,[]),(false,some 2,[2]),(true,none,[3,4,5,0,2]),(false,none,[])] hnd (by kernel_rfl) rfl (by kernel_rfl),?_⟩
      repeat with_reducible first|refine nz aa ?_|apply ny;simp only[f113,g1',g3',s1',e4,e6,q0,q1,go_sem];rfl
      have w9:l'.take d=R:=by
       have h1:=congrArg (List.take d) w5;rw[hpt,List.take_take]at h1;rw[F4 (by omega)]at h1
       rw[h1,FU (by rw[←hl1,En];omega)]
      exact fin _ _ lw1 l' false _ _ hlt (by simp only[gL,go_sem]) hk1 hlw10 (hsl.trans (gd hYl.toYOk hf1 hlw hK hid (.pf (by omega)) (hfn K (by omega)) (cV _) hB rfl rfl)) w9 (by omega) w7 (fun h=>by cases h) hf2 rfl (by simp only[go_sem])
   ·rw[D5 (fun h=>hfr h.1)]at hfold
    have hfr':(q.2.frm != list.getD a 0)=true:=eC hfr;repeat with_reducible first|refine nz gz ?_|apply ny;simp only[f113,hlt',hq',hzr',hzl,hga,hfr',gG,gG0,gS,gS0,gL,gA,e4,hadd,go_sem];rfl
    exact fin _ _ lw l1 z1 _ _ hlt (by simp only[gL,go_sem]) hlw hlw0 hsl hl1 hdl1 hlb1 hz1 hfold rfl (by simp only[go_sem])
  ·have hlt':¬(i:Int)<rz.length:=by omega
   rw[xy (by rw[DX];omega)]at hfold
   have hb':b=true∧low'=lw:=by
    cases hfold;exact⟨rfl,rfl⟩
   obtain⟨rfl,rfl⟩:=hb';repeat with_reducible first|refine nz gz ?_|apply ny;simp only[f113,hlt',go_sem];rfl
   refine⟨(fun l e=>by cases e),rfl,?_,rfl,(.pf (k0+3) d l1.length,z1,l1),[],⟨fun _=>⟨rfl,by rw[hl1,hR],hdl1,hlb1,hz1⟩,.pf (by omega)⟩,by simp⟩
   exact hsl
theorem yI{Y:List PV->List Box->Bool->List Box->Prop}(e:Int)(zs:Z)(sc lc:List PV)(mm:List Int)(zr:Z)(rz:List Rz)(id k0:Nat)(hcl:ad (gk e (.sl zs sc) (.sl zr (rz.map aT)) mm (.sl .a lc))=true)(hzr:zOk zr (rz.map aT)=true)(hrz:rzIn mm rz=true)(hrl:rz.length<=1000)(he:-1000<=e∧e<=1000)(hmm:mm.length<=1000)(hid:id<k0)(hYl:YLeaf id Y):
 ∀f,DerP Y e (.sl zs sc) (.sl .a lc) mm zr rz id k0 f
 |0=>fun zl list l d z low low' B0 K b _ _ _ _ hwt=>absurd hwt (Nat.not_lt_zero _)
 |f+1=>der_step e zs sc lc mm zr rz id k0 f hcl hzr hrz hrl he hmm hid hYl (yI e zs sc lc mm zr rz id k0 hcl hzr hrz hrl he hmm hid hYl f)
theorem cpv_nilf:cpv .nilFunc=some .nilf:=rfl
attribute [go_sem] cpv_nilf
theorem xZ(f:Fn)(cs:List PV)(hc:ad cs=true):bR 0 (.fn f [] [.bp 0 0]) [.var cs false]=(.fn f [] [.ip cs],[]):=by
 refine A6 ?_ (by simp[PV.closed,ad,hc])
 have h1:(PV.fn f [] [.bp 0 0]).closed=false:=rfl;have h2:(PV.bp 0 0).closed=false:=rfl;unfold frzX;rw[D5 (by rw[h1];simp)]
 simp only[fC,uW,cO];unfold frzX;rw[D5 (by rw[h2];simp)]
 simp[fC,uW,bE (n:=5) cs _ hc]
theorem zL{Y:Nat->List PV->List Box->Bool->List Box->Prop}(hY:∀id,YLeaf id (Y id))(e:Int)(zs:Z)(sc lc:List PV)(mm:List Int)(zr:Z)(rz:List Rz)(hcl:ad (gk e (.sl zs sc) (.sl zr (rz.map aT)) mm (.sl .a lc))=true)(hzr:zOk zr (rz.map aT)=true)(hrz:rzIn mm rz=true)(hrl:rz.length<=1000)(he:1<=e∧e<=1000)(hmm:1<=mm.length∧mm.length<=1000)(hw:wtF e [0]+1<=20000):
 IterG Y prog 112 (fun id=>[.yl id,.ip (gk e (.sl zs sc) (.sl zr (rz.map aT)) mm (.sl .a lc))]) (tZ [] (Mj e (okM mm) (rz.map (·.2)) (wtF e [0]+1) [0])):=by
 intro id low b low' h0 hid h;obtain⟨hl',h0'⟩:=(hY id).lens h h0;have hsl2:SameLoops low low':=by
  have:=(hY id).sames (own:=[]) h (fun x hx=>by cases hx)
  simpa using this
 obtain⟨v',z',l',w1,w2,w3⟩:=yI e zs sc lc mm zr rz id low.length hcl hzr hrz hrl (by omega) hmm.2 hid (hY id) (wtF e [0]+1) .f [0] [] 0 true low low' [] (low.length+4) b (by decide) (by simp) hw (fun x hx=>by simp at hx;subst hx;omega) (FG _)
  (fun hf=>by rw[bN,DZ (by omega)]at hf;cases hf) (DS _) (by simp) (by omega) (fun _=>rfl) rfl rfl h0 (fun x hx=>by cases hx) h
 refine⟨.tuple [],?_,hsl2⟩;have hB:∀x∈([]:List Box),x.Lt (low.length+4):=fun x hx=>by cases hx
 obtain⟨fnv,hfv⟩:∃fnv,fnv=PV.fn (.func 113) [] [.ip (gk e (.sl zs sc) (.sl zr (rz.map aT)) mm (.sl .a lc)),.bp low.length 0,.bp (low.length+1) 0,.bp (low.length+2) 0]:=⟨_,rfl⟩;have hfn:Pv.Lt (low.length+4) fnv:=by
  rw[hfv];refine .fn (fun c hc=>by cases hc) fun c hc=>?_
  simp only[D6,Eb,EM]at hc;rcases hc with rfl|rfl|rfl|rfl
  ·exact(av _ (show(PV.ip _).closed=true from hcl)).mono (Ee _)
  ·exact .bp (by omega)
  ·exact .bp (by omega)
  ·exact .bp (by omega)
 have hsr:SameLoops (stk id fnv [] low (.pf (low.length+3) 0 0) true [] []) (stk id fnv [] low' v' z' (l'.map ii) []):=gd (hY id).toYOk h rfl rfl hid (.pf (by omega)) hfn rfl hB rfl rfl
 rw[hfv]at hsr;refine ab.ofB hTT func112 rfl rfl ?_ hl' (fun x hx=>by have:=h0' x hx;rw[hl']at this;simpa using this) (.tuple (fun c hc=>by cases hc))
 have g0:∀B:List Box,(low++B)[low.length]?=B[0]?:=dS low;have g1:∀(B:List Box) (n:Nat),(low++B)[low.length+n]?=B[n]?:=dO low;have s0:∀(B:List Box) (x:Box),(low++B).set low.length x=low++B.set 0 x:=gq low;have s1:∀(B:List Box) (n:Nat) (x:Box),(low++B).set (low.length+n) x=low++B.set n x:=d8 low;repeat with_reducible first|(fail_if_success refine am.seq (x:=.region 4 _ _) ?_);(fail_if_success show am _ (.region 4 _ _) _ _);refine nz aa ?_|apply ny;simp only[f112,g0,g1,s0,s1,bl,go_sem];rfl
 refine am.pfVar (low.length+1) 0 3 1 (by rw[dO];rfl) rfl (sg':=stk id (PV.fn (.func 113) [] [.ip (gk e (.sl zs sc) (.sl zr (rz.map aT)) mm (.sl .a lc)),.bp low.length 0,.bp (low.length+1) 0,.bp (low.length+2) 0]) [] low (.pf (low.length+3) 0 0) true [] []) (by rw[s1,Et];simp only[Ea];rfl) ?_
 have w3:ab prog 113 [.sl .f [ii 0],.ip (gk e (.sl zs sc) (.sl zr (rz.map aT)) mm (.sl .a lc)),.bp low.length 0,.bp (low.length+1) 0,.bp (low.length+2) 0] (stk id (PV.fn (.func 113) [] [.ip (gk e (.sl zs sc) (.sl zr (rz.map aT)) mm (.sl .a lc)),.bp low.length 0,.bp (low.length+1) 0,.bp (low.length+2) 0]) [] low (.pf (low.length+3) 0 0) true [] []) (.ret (.bool b)) (stk id (PV.fn (.func 113) [] [.ip (gk e (.sl zs sc) (.sl zr (rz.map aT)) mm (.sl .a lc)),.bp low.length 0,.bp (low.length+1) 0,.bp (low.length+2) 0]) [] low' v' z' (l'.map ii) []):=w3;have g2:=stk2 (id:=id) (fnv:=(PV.fn (.func 113) [] [.ip (gk e (.sl zs sc) (.sl zr (rz.map aT)) mm (.sl .a lc)),.bp low.length 0,.bp (low.length+1) 0,.bp (low.length+2) 0])) (B0:=[]) (lw:=low) rfl;repeat with_reducible first|refine nz (ar aa (ent func113 rfl) w3 hsr) ?_|apply ny;simp only[f112,cp,g2,go_sem];rfl
 refine⟨rfl,?_,rfl,[.var [.yl id] false,.var [v'] false,.var [(PV.fn (.func 113) [] [.ip (gk e (.sl zs sc) (.sl zr (rz.map aT)) mm (.sl .a lc)),.bp low.length 0,.bp (low.length+1) 0,.bp (low.length+2) 0])] false,.row z' 3 1 (l'.map ii) false],rfl⟩;exact SameLoops.app [.var [.yl id] false,.var [v'] false,.var [(PV.fn (.func 113) [] [.ip (gk e (.sl zs sc) (.sl zr (rz.map aT)) mm (.sl .a lc)),.bp low.length 0,.bp (low.length+1) 0,.bp (low.length+2) 0])] false,.row z' 3 1 (l'.map ii) false] rfl hsl2
theorem mW(cs:List PV)(hc:ad cs=true):ab prog 88 [.agg cs] [] (.ret (.fn (.func 112) [] [.ip cs])) []:=by
 refine ab.ofF hTT func88 rfl rfl ?_;repeat with_reducible first|refine nz aa ?_|apply ny;simp only[f88,bl,go_sem];rfl
 exact⟨rfl,rfl,_,rfl,xZ _ _ hc⟩
def c149:Tb_
 |[.agg cs],sg=>if ad cs=true then some (.ret (.fn (.func 112) [] [.ip cs]),sg)else none
 |_,_=>none
theorem c149_ok:dU prog 88 c149:=dU.of0 (ent func88 rfl) fun args sg r sg' h=>by
 unfold c149 at h;split at h <;> try (cases h;done)
 split at h <;> cases h
 rename_i hc;exact⟨_,rfl,rfl,by rw[af,sP,ae 0 _ hc];rfl,mW _ hc⟩
namespace Sty
def num(s:Sty):Nat:=s.e.toNat+s.sc.length
def tab(s:Sty):List (Nat×Nat):=fm (min 1000) id s.e.toNat s.num s.rl s.num
def mm(s:Sty):List Int:=s.tab.map fun p=>(p.1:Int)
def ln(s:Sty):List Int:=s.tab.map fun p=>(p.2:Int)
abbrev told(s:Sty):List PV:=gk s.e (.sl s.zs (s.sc.map bF)) (.sl s.zr (s.rz.map aT)) s.mm (.sl .a (s.ln.map ii))
theorem parts_ok{s:Sty}(h:s.parts=true):PartsOk s.e s.sc s.rl:=mB.1 h
theorem tab_len'(s:Sty):s.tab.length=s.num:=f7 _ _ _ _ _ _
theorem mm_len(s:Sty):s.mm.length=s.num:=by unfold mm;rw[DX,tab_len']
end Sty
theorem eM(s:Sty):ad s.told=true:=by simp[ad,PV.closed,ap,ao,cV]
theorem tellS_88(s:Sty)(hok:s.ok=true)(hp:s.parts=true):ab prog 67 [.agg s.cells] [] (.ret (.agg s.told)) []:=by
 have hP:=Sty.parts_ok hp;have h1:=hP.e6;have h2:=hP.s8;have h3:=hP.e1;exact tell_88 s hok hP s.num (by unfold Sty.num;omega) (by unfold Sty.num;omega)
def c146:Tb_
 |[v],sg=>match cS v with
  |some s=>some (.ret (.bool s.parts),sg)
  |none=>none
 |_,_=>none
theorem c146_ok:dU prog 84 c146:=dU.of0 (ent func84 rfl) fun args sg r sg' h=>by
 unfold c146 at h;split at h <;> try (cases h;done)
 split at h <;> cases h
 rename_i s h1;obtain⟨rfl,hok⟩:=aM h1;exact⟨_,rfl,rfl,by rw[af,cm];rfl,sV s hok⟩
def c88:Tb_
 |[v],sg=>match cS v with
  |some s=>if s.parts=true then some (.ret (.agg s.told),sg)else none
  |none=>none
 |_,_=>none
theorem qG:dU prog 67 c88:=dU.of0 (ent func67 rfl) fun args sg r sg' h=>by
 unfold c88 at h;split at h <;> try (cases h;done)
 split at h <;> try (cases h;done)
 rename_i s h1;split at h <;> cases h
 rename_i hp;obtain⟨rfl,hok⟩:=aM h1;exact⟨_,rfl,rfl,by rw[af,cm];rfl,tellS_88 s hok hp⟩
theorem OB(s:Sty)(hP:PartsOk s.e s.sc s.rl):∃p l,s.tab=p::l∧p.1=min 1000 (manyM s.e s.num s.rl 0).1∧p.2=(manyM s.e s.num s.rl 0).2:=by
 have hn:1<=s.num:=by unfold Sty.num;have:=hP.e1;omega
 have h1:=ja (gX 1000 (by omega)) cap_id s.e.toNat s.num s.rl s.num
 have h2:=s.tab_len';unfold Sty.tab at *;unfold manyM kF eo;cases ht:fm id id s.e.toNat s.num s.rl s.num with
 |nil=>rw[ht]at h1;rw[h1]at h2;simp at h2;omega
 |cons q l =>
  rw[ht]at h1;exact⟨li (min 1000) id q,l.map (li (min 1000) id),h1,rfl,rfl⟩
def cfR:CallF:=aE (aE cf0 84 c146) 67 c88
theorem oE:CallFOk prog cfR:=ah (ah aa c146_ok) qG
theorem wH(s:Sty)(hok:s.ok=true):ab prog 65 [.agg s.cells] [] (.ret (.bool s.story)) []:=by
 refine ab.of0 hTT func65 rfl rfl ?_;have hd:=aS s hok;have h1:=ap s.sc;have h2:=ao s.rz;have hst:s.story=(s.parts&&(let t:=((kF s.e.toNat (s.e.toNat+s.sc.length) s.rl).getD 0 (0,0));decide (t.1<=40)&&decide (t.2<=10))):=rfl
 cases hp:s.parts with
 |false =>
  repeat with_reducible first|refine nz oE ?_|apply ny;simp only[f65,cfR,c146,hd,hp,h1,h2,go_sem];rfl
  refine⟨rfl,rfl,_,rfl,?_⟩;rw[hst,hp];rfl
 |true =>
  have hP:=Sty.parts_ok hp;obtain⟨p,l,e1,e2,e3⟩:=OB s hP;have hmm:s.mm.map ii=ii p.1::(l.map fun p=>(p.1:Int)).map ii:=by unfold Sty.mm;rw[e1];rfl
  have hln:s.ln.map ii=ii p.2::(l.map fun p=>(p.2:Int)).map ii:=by unfold Sty.ln;rw[e1];rfl
  have hm:(manyM s.e s.num s.rl 0)=(kF s.e.toNat (s.e.toNat+s.sc.length) s.rl).getD 0 (0,0):=rfl;have hcl:=eM s;rw[hst,hp];simp only[EJ];rw[←hm];have ez:(Z.a=Z.n)=False:=by simp
  by_cases a1:p.1<=40
  ·have a1':(p.1:Int)<=40:=by omega
   repeat with_reducible first|refine nz oE ?_|apply ny;simp only[f65,cfR,c146,c88,hd,hp,h1,h2,hcl,hmm,hln,ez,a1',go_sem];rfl
   refine⟨rfl,rfl,_,rfl,?_⟩;rw[Ej (show(manyM s.e s.num s.rl 0).1<=40 by omega),EJ,show decide ((manyM s.e s.num s.rl 0).2<=10)=decide ((p.2:Int)<=10)by rw[←e3,decide_eq_decide];omega]
   rfl
  ·have a1':¬(p.1:Int)<=40:=by omega
   repeat with_reducible first|refine nz oE ?_|apply ny;simp only[f65,cfR,c146,c88,hd,hp,h1,h2,hcl,hmm,hln,ez,a1',go_sem];rfl
   refine⟨rfl,rfl,_,rfl,?_⟩;rw[Ei (show ¬(manyM s.e s.num s.rl 0).1<=40 by omega)]
   rfl
def c87:Tb_
 |[v],sg=>match cS v with
  |some s=>some (.ret (.bool s.story),sg)
  |none=>none
 |_,_=>none
theorem c87_ok:dU prog 65 c87:=dU.of0 (ent func65 rfl) fun args sg r sg' h=>by
 unfold c87 at h;split at h <;> try (cases h;done)
 split at h <;> cases h
 rename_i s h1;obtain⟨rfl,hok⟩:=aM h1;exact⟨_,rfl,rfl,by rw[af,cm];rfl,wH s hok⟩
theorem Sty.story_ok{s:Sty}(h:s.story=true):StoryOk s.e s.sc s.rl:=fH.1 h
end Go.Pv
