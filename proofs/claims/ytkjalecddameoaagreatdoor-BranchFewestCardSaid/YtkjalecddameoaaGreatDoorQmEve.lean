import Derived.Test.YtkjalecddameoaaGreatDoorQmFit
set_option linter.all false
open Go.Proofs.Tryz
namespace Go.Pv
open Go Go.RowKit Go.Proofs
set_option maxRecDepth 200000
set_option maxHeartbeats 8000000
def Bb(c:List Nat):Z:=if decide (c.length=0)=true then .n else .a
def BO(s:Sty)(n:Nt):PV:=if(s.story&&evB n)=true then(match jf n s.sc (aX s.e s.sc s.rl)with
 |[]=>.tuple [.sl .n [],.sl .n [],.sl .n [],ii 5]
 |p::_=>match qf n (scn s.sc p)with
  |[]=>.tuple [slx p,.sl .n [],.sl .n [],ii 5]
  |c::_=>.tuple [slx p,slC c,.sl (Bb c) ((re n c (scn s.sc p) c).map ii),ii 0])else .tuple [.sl .n [],.sl .n [],.sl .n [],ii 2]
theorem prog_nof(n:Nt)(l:List Sn):wh n (l.map nof)=wh n l:=by
 unfold wh;rw[oN,Bk];split
 ·split
  ·rfl
  ·rw[Bj]
 ·rfl
theorem BR{s:Sty}{n:Nt}{p:List Int}(h:Vd s n p)(hv:cX n s.sc p=4):∃c C,qf n (scn s.sc p)=c::C∧wh n (scn s.sc p)=.tuple [slC c,.sl (Bb c) ((re n c (scn s.sc p) c).map ii),ii 0]:=by
 obtain⟨_,ho,hp⟩:=Br.1 hv;unfold iL at hp;unfold wh;rw[h.plan,DZ ho];cases hc:qf n (scn s.sc p)with
 |nil=>rw[hc]at hp;simp at hp
 |cons c C=>exact⟨c,C,rfl,rfl⟩
def cfYf:CallF:=aE (aE cf0 103 c103) 76 c76
theorem Bl:CallFOk prog cfYf:=ah (ah aa BC) Bo
theorem B8(s:Sty)(hok:s.ok=true)(n:Nt):ab prog 62 [.agg s.cells,.agg (ntC n)] [] (.ret (BO s n)) []:=by
 refine ab.ofF hTT func62 rfl rfl ?_;have hds:=aS s hok;have hdn:gJ (.agg (ntC n))=some n:=fF n;have hc1:=ap s.sc;have hc2:=ao s.rz;cases hse:(s.story&&evB n)
 ·have hF:Jd s n=.tuple [.sl .n [],ii 2]:=by unfold Jd;rw[hse,D5 (by simp)]
  have hV:BO s n=.tuple [.sl .n [],.sl .n [],.sl .n [],ii 2]:=by unfold BO;rw[hse,D5 (by simp)]
  rw[hV];have n20:((2:Int) != 0)=true:=rfl;repeat with_reducible first|refine nz Bl ?_|apply ny;simp only[f62,cfYf,c103,hds,hdn,hF,n20,hc1,hc2,go_sem];rfl
  exact⟨rfl,rfl,_,rfl,aq rfl⟩
 ·have hst:s.story=true:=by revert hse;cases s.story <;> simp
  have he:evB n=true:=by revert hse;rw[hst];simp
  cases hL:jf n s.sc (aX s.e s.sc s.rl)with
  |nil =>
   have hF:Jd s n=.tuple [.sl .n [],ii 5]:=by unfold Jd;rw[hse,DZ rfl,hL];rfl
   have hV:BO s n=.tuple [.sl .n [],.sl .n [],.sl .n [],ii 5]:=by unfold BO;rw[hse,DZ rfl,hL]
   rw[hV];have n50:((5:Int) != 0)=true:=rfl;repeat with_reducible first|refine nz Bl ?_|apply ny;simp only[f62,cfYf,c103,hds,hdn,hF,n50,hc1,hc2,go_sem];rfl
   exact⟨rfl,rfl,_,rfl,aq rfl⟩
  |cons p rest =>
   have hpm:p∈aX s.e s.sc s.rl∧cX n s.sc p=4:=Aa.1 (by rw[hL];exact DV)
   have hvd:=pY hok hst he hpm.1;obtain⟨c,C,hcan,hprog⟩:=BR hvd hpm.2;have hF:Jd s n=.tuple [.sl .a (Ah s n p::rest.map (Ah s n)),ii 0]:=by
    unfold Jd;rw[hse,DZ rfl,hL,D5 (by simp)];rfl
   have hV:BO s n=.tuple [slx p,slC c,.sl (Bb c) ((re n c (scn s.sc p) c).map ii),ii 0]:=by
    unfold BO;rw[hse,DZ rfl,hL]
    show(match qf n (scn s.sc p)with
     |[]=>PV.tuple [slx p,.sl .n [],.sl .n [],ii 5]
     |c::_=>.tuple [slx p,slC c,.sl (Bb c) ((re n c (scn s.sc p) c).map ii),ii 0])=_
    rw[hcan]
   rw[hV];have hcp:=ac p;have hcr:=g8 s n rest;have hsv:Ah s n p=.agg (sj s n .a p):=rfl;have hp2:=hvd.p2;have h124:=u7 s hok n .a p (fun e=>by cases e) hvd.rg (by omega)
   have hdp:=kr n (scn s.sc p);have hb:bD 0 [PV.agg (sj s n .a p)]=true:=ae 0 _ (by simp[ad,PV.closed,ap,ao,ac])
   rw[←prog_nof]at hprog;have hcc:=ay (scn s.sc p);have hsx:slx p=.sl .a (p.map ii):=rfl;unfold pM at h124 hdp;have hx1:=aO c;have hslC:slC c=.sl (if c=[]then .f else .a) (nn c):=rfl;rw[hslC]at hprog ⊢;generalize (if c=[]then Z.f else Z.a)=zc at hprog ⊢;clear hslC;generalize hlz:Bb c=lz at hprog ⊢;generalize re n c (scn s.sc p) c=LL at hprog ⊢;have hx2:=ac LL;generalize scn s.sc p=L at *;generalize (if decide (L.length=0)=true then Z.n else Z.a)=zL at h124 hdp;repeat with_reducible first|refine nz (ah (ah (aj aa (ent func124 rfl) h124 hb) BC) Bo) ?_|apply ny;simp only[f62,eA,aE,c76,c103,hds,hdn,hF,hdp,hprog,hsv,hsx,hc1,hc2,hcp,hcr,hcc,hx1,hx2,go_sem];rfl
   exact⟨rfl,rfl,_,rfl,aq (show ad [slx p,.sl zc (nn c),.sl lz (LL.map ii),ii 0]=true from by simp[ad,PV.closed,slx,hcp,hx1,hx2])⟩
def c62:Tb_
 |[v,w],sg=>match cS v,gJ w with
  |some s,some n=>some (.ret (BO s n),sg)
  |_,_=>none
 |_,_=>none
theorem c62_ok:al prog 62 c62:=al.of0 (ent func62 rfl) fun args sg r sg' h=>by
 unfold c62 at h;split at h <;> try (cases h;done)
 split at h <;> cases h
 rename_i s n h1 h2;obtain⟨rfl,hok⟩:=aM h1;obtain rfl:=dz h2;exact⟨_,rfl,rfl,by rw[af,af,cm];rfl,B8 s hok n⟩
theorem CJ{s:Sty}{n:Nt}(hok:s.ok=true)(hst:s.story=true)(he:evB n=true):(jf n s.sc (aX s.e s.sc s.rl)=[]∧BO s n=.tuple [.sl .n [],.sl .n [],.sl .n [],ii 5]) ∨
 ∃p r c C,jf n s.sc (aX s.e s.sc s.rl)=p::r∧Vd s n p∧cX n s.sc p=4∧p∈aX s.e s.sc s.rl∧qf n (scn s.sc p)=c::C∧BO s n=.tuple [slx p,slC c,.sl (Bb c) ((re n c (scn s.sc p) c).map ii),ii 0]:=by
 have hse:(s.story&&evB n)=true:=by rw[hst,he];rfl
 cases hL:jf n s.sc (aX s.e s.sc s.rl)with
 |nil=>exact .inl ⟨rfl,by unfold BO;rw[hse,DZ rfl,hL]⟩
 |cons p r =>
  have hpm:p∈aX s.e s.sc s.rl∧cX n s.sc p=4:=Aa.1 (by rw[hL];exact DV)
  have hvd:=pY hok hst he hpm.1;obtain⟨c,C,hcan,_⟩:=BR hvd hpm.2;refine .inr ⟨p,r,c,C,rfl,hvd,hpm.2,hpm.1,hcan,?_⟩;unfold BO;rw[hse,DZ rfl,hL]
  show(match qf n (scn s.sc p)with
   |[]=>PV.tuple [slx p,.sl .n [],.sl .n [],ii 5]
   |c::_=>.tuple [slx p,slC c,.sl (Bb c) ((re n c (scn s.sc p) c).map ii),ii 0])=_
  rw[hcan]
end Go.Pv
