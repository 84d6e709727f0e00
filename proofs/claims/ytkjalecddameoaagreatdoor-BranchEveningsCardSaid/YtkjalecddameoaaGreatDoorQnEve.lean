import Derived.Test.YtkjalecddameoaaGreatDoorQmEve
import Derived.Test.YtkjalecddameoaaGreatDoorQmBgs
import Derived.Test.YtkjalecddameoaaGreatDoorQjPlays
set_option linter.all false
open Go.Proofs.Tryz
namespace Go.Pv
open Go Go.RowKit Go.Proofs
set_option maxRecDepth 200000
set_option maxHeartbeats 8000000
def cfN7:CallF:=aE (aE (aE (aE (aE (aE (aE (aE cfLc 62 c62) 72 c72) 46 c46) 73 c73) 49 c49) 65 c65) 74 c74) 75 c75
theorem AV(hk:al prog 21 c21):CallFOk prog cfN7:=ah (ah (ah (ah (ah (ah (ah (ah (cfLc_ok hk) c62_ok) c72_ok) c46_ok) c73_ok) c49_ok) c65_ok) c74_ok) c75_ok
theorem By(hk:al prog 21 c21)(s:Sty)(hok:s.ok=true)(n:Nt):ab prog 17 [.agg s.cells,.agg (ntC n)] [] (.ret (.bool true)) []:=by
 refine ab.of0 hTT func17 rfl rfl ?_;have hd:=aS s hok;have hdn:gJ (.agg (ntC n))=some n:=fF n;have h1:=ap s.sc;have h2:=ao s.rz;have n00:((0:Int) != 0)=false:=rfl;have n55:((5:Int) != 5)=false:=rfl;cases h0:ub s
 ·repeat with_reducible first|refine nz (AV hk) ?_|apply ny;simp only[f17,cfN7,cfLc,cfLb,cfLa,c19,c21,hd,h0,h1,h2,go_sem];rfl
  exact⟨rfl,rfl,_,rfl,rfl⟩
 have hBb:(s.story&&evB n)=false->Ck s n=.tuple [.agg [ii 0,ii 0],ii 2]:=fun e=>by unfold Ck;rw[e,D5 (by simp)]
 cases hst:s.story
 ·have hV:=eve_no (s:=s) (n:=n) (by rw[hst];rfl)
  have hC:=hBb (by rw[hst];rfl)
  repeat with_reducible first|refine nz (AV hk) ?_|apply ny;simp only[f17,cfN7,cfLc,cfLb,cfLa,c19,c20,c21,c62,c72,c46,hd,hdn,h0,hst,hV,hC,h1,h2,Fe,go_sem];rfl
  exact⟨rfl,rfl,_,rfl,rfl⟩
 cases he:evB n
 ·have hV:=eve_no (s:=s) (n:=n) (by rw[hst,he];rfl)
  have hC:=hBb (by rw[hst,he];rfl)
  repeat with_reducible first|refine nz (AV hk) ?_|apply ny;simp only[f17,cfN7,cfLc,cfLb,cfLa,c19,c20,c21,c62,c72,c46,hd,hdn,h0,hst,he,hV,hC,h1,h2,Fe,go_sem];rfl
  exact⟨rfl,rfl,_,rfl,rfl⟩
 have hO:=Sty.story_ok hst;have hse:(s.story&&evB n)=true:=by rw[hst,he];rfl
 have hB0:Ck s n=match Bg n s.sc (aX s.e s.sc s.rl)with
  |none=>PV.tuple [.agg [ii 0,ii 0],ii 5]
  |some x=>.tuple [.agg [ii x.1,ii x.2],ii 0]:=by unfold Ck;rw[hse,DZ rfl];cases Bg n s.sc (aX s.e s.sc s.rl) <;> rfl
 obtain⟨b1,b2,be,bis,hB,hR,hx1,hx2⟩:∃b1 b2 be bis,Ck s n=.tuple [.agg [ii b1,ii b2],ii be]∧begT (Bg n s.sc (aX s.e s.sc s.rl))=.tuple [.agg [ii b1,ii b2],.bool bis]∧(bis=false->be=5∧b1=0∧b2=0)∧(bis=true->be=0):=by
  rw[hB0];cases Bg n s.sc (aX s.e s.sc s.rl)with
  |none=>exact⟨0,0,5,false,rfl,rfl,fun _=>⟨rfl,rfl,rfl⟩,fun e=>by cases e⟩
  |some x=>exact⟨x.1,x.2,0,true,rfl,rfl,(fun e=>by cases e),fun _=>rfl⟩
 clear hB0;rcases CJ hok hst he with ⟨hF,hV⟩|⟨p,r,c,C,hF,hvd,hv4,hpm,hcan,hV⟩
 ·have hFp:kT ([]:List (List Int))=.sl .n []:=rfl
  cases bis with
  |false =>
   obtain⟨rfl,rfl,rfl⟩:=hx1 rfl;repeat with_reducible first|refine nz (AV hk) ?_|apply ny;simp only[f17,cfN7,cfLc,cfLb,cfLa,c19,c20,c21,c62,c72,c46,c73,c49,hd,hdn,h0,hst,he,hV,hB,hR,hF,hFp,n00,n55,h1,h2,Fe,go_sem];rfl
   exact⟨rfl,rfl,_,rfl,rfl⟩
  |true =>
   obtain rfl:=hx2 rfl;repeat with_reducible first|refine nz (AV hk) ?_|apply ny;simp only[f17,cfN7,cfLc,cfLb,cfLa,c19,c20,c21,c62,c72,c46,c73,c49,hd,hdn,h0,hst,he,hV,hB,hR,hF,hFp,n00,n55,h1,h2,Fe,bne_self_eq_false,go_sem];rfl
   exact⟨rfl,rfl,_,rfl,rfl⟩
 ·have hFp:kT (p::r)=.sl .a (.sl .a (p.map ii)::r.map slx):=rfl
  have hc9:=aC r;have hcp:=ac p;have hsx:slx p=.sl .a (p.map ii):=rfl;have hdp1:aN (.sl .a (p.map ii))=some p:=aI rfl;have hpd:=pd_to hvd;have hpp:p.length<=maxLen:=by have:=hvd.p2;unfold maxLen;omega
  have hpe:decide (p=p)=true:=Ej rfl;have hdp:=kr n (scn s.sc p);have hpV:pM n (scn s.sc p)=.agg (plC n (if decide ((scn s.sc p).length=0)=true then .n else .a) (scn s.sc p)):=rfl;rw[hpV]at hdp;have hcc:=ay (scn s.sc p);generalize (if decide ((scn s.sc p).length=0)=true then Z.n else Z.a)=zL at hdp hpV;have hpl:du n ((scn s.sc p).map nof)=true:=by rw[oN,hvd.plan];exact(Br.1 hv4).2.1
  have hcn:qf n ((scn s.sc p).map nof)=c::C:=by rw[Bk,hcan]
  have hz0:decide ((c::C).length=0)=false:=by simp
  have hz1:decide (C.length+1=0)=false:=by simp
  have hr1:(((r.length+1:Nat):Int)==0)=false:=by rw[EF];omega
  have hmc:(c::C).map slc=slc c::C.map slc:=rfl;have hcC:=c9 C;have hsl:slc c=.sl (if c=[]then .n else .a) (nn c):=rfl;have hsC:slC c=.sl (if c=[]then .f else .a) (nn c):=rfl;have hcho:IsCho ((scn s.sc p).map nof) c:=(can_mem.1 (by rw[hcn];exact DV)).1
  have hcl2:(c.all fun x=>decide (x<((scn s.sc p).map nof).length))=true:=D7.2 fun x hx=>Ej (hcho.lt x hx)
  have hcl4:(c.all fun x=>decide (x<(scn s.sc p).length))=true:=D7.2 fun x hx=>Ej (by have:=hcho.lt x hx;rw[DX]at this;exact this)
  have hcl3:c.length<=1000:=by
   have h1:=jG (n:=((scn s.sc p).map nof).length) (i:=0) hcho.rise fun x hx=>⟨Ee _,hcho.lt x hx⟩
   have h2:=(xn hpl).l10;omega
  have hdc1:aN (.sl (if c=[]then .f else .a) (nn c))=some (bH c):=by rw[BS];exact aI (zOkI fun e=>by split at e <;> cases e)
  have hdc2:aN (.sl (if c=[]then .n else .a) (nn c))=some (bH c):=by
   rw[BS];exact aI (zOkI fun e=>by
    split at e
    ·rename_i h;rw[h];rfl
    ·cases e)
  have hdc3:gN (.sl (if c=[]then .n else .a) (nn c))=some c:=dm fun e=>by
   split at e
   ·assumption
   ·cases e
  have hcnn:=aO c;have hil:(bH c).length<=maxLen:=by unfold bH maxLen;rw[DX];omega
  have hie:decide (bH c=bH c)=true:=Ej rfl;have hlz:(if c.length=0 then Z.n else Z.a)=Bb c:=by unfold Bb;simp only[Eo]
  have hln:=Bj n c c (scn s.sc p);generalize hLL:re n c (scn s.sc p) c=LL at hV hln;have hLl:LL.length=c.length:=by rw[←hLL];exact BU n c c (scn s.sc p)
  have hdl:aN (.sl (Bb c) (LL.map ii))=some LL:=aI (zOkI fun e=>by
   unfold Bb at e;split at e
   ·rename_i h;exact Ew.1 (by rw[hLl];exact Eu h)
   ·cases e)
  have hcLL:=ac LL;have hLm:LL.length<=maxLen:=by unfold maxLen;omega
  have hLe:decide (LL=LL)=true:=Ej rfl;rw[hsC]at hV;generalize (if c=[]then Z.f else Z.a)=y1 at hV hdc1;generalize (if c=[]then Z.n else Z.a)=y2 at hsl hdc2 hdc3;generalize Bb c=y3 at hV hlz hdl;clear hLL hcan hvd hcho;cases bis with
  |false =>
   obtain⟨rfl,rfl,rfl⟩:=hx1 rfl;repeat with_reducible first|refine nz (AV hk) ?_|apply ny;simp only[f17,cfN7,cfLc,cfLb,cfLa,c19,c20,c21,yD,c62,c72,c46,c73,c49,c65,c74,c75,hd,hdn,h0,hst,he,hV,hB,hR,hF,hFp,hsx,hdp1,hpd,hpp,hpe,hpV,hdp,hpl,hcn,hz0,hz1,hr1,hmc,hcC,hsl,hcl2,hcl4,hcl3,hdc1,hdc2,hdc3,hcnn,hil,hie,hlz,hln,hdl,hcLL,hLm,hLe,hcp,hcc,hc9,n00,n55,h1,h2,Fe,go_sem];rfl
   exact⟨rfl,rfl,_,rfl,rfl⟩
  |true =>
   obtain rfl:=hx2 rfl;repeat with_reducible first|refine nz (AV hk) ?_|apply ny;simp only[f17,cfN7,cfLc,cfLb,cfLa,c19,c20,c21,yD,c62,c72,c46,c73,c49,c65,c74,c75,hd,hdn,h0,hst,he,hV,hB,hR,hF,hFp,hsx,hdp1,hpd,hpp,hpe,hpV,hdp,hpl,hcn,hz0,hz1,hr1,hmc,hcC,hsl,hcl2,hcl4,hcl3,hdc1,hdc2,hdc3,hcnn,hil,hie,hlz,hln,hdl,hcLL,hLm,hLe,hcp,hcc,hc9,n00,n55,h1,h2,Fe,bne_self_eq_false,go_sem];rfl
   exact⟨rfl,rfl,_,rfl,rfl⟩
end Go.Pv
