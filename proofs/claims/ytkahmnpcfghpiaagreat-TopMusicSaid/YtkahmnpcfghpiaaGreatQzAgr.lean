import Derived.Test.YtkahmnpcfghpiaaGreatQiRef
import Derived.Test.YtkahmnpcfghpiaaGreatQhSo
set_option linter.all false
open Go.Proofs.Tryz
namespace Go.Pv
open Go Go.RowKit Go.Proofs
set_option maxRecDepth 200000
set_option maxHeartbeats 8000000
def isV(l:List Int):PV:=.sl (if l.length=0 then .n else .a) (l.map ii)
theorem KK(l:List Int):(isV l).closed=true:=by simp only[isV,PV.closed];exact ac l
def r8(s:Sty)(b:List Int):PV:=if(s.story&&Do s.sc.length b 0)=true then .tuple [isV (u4 s.sc.length (aX s.e s.sc s.rl) b),ii 0]else .tuple [.sl .n [],ii 2]
theorem KE{ps:List (List Int)}{b x:List Int}{i:Nat}(h:ps[i]?=some x):f0 (ps.take (i+1)) b=f0 (ps.take i) b++(if b.length<x.length∧x.take b.length=b then x[b.length]? else none).toList:=by
 unfold f0;rw[Ev,h,Gf]
 congr 1
 all_goals
  show List.filterMap _ [x]=_;rw[List.filterMap_cons];split <;> (rename_i e;rw[e];rfl)
theorem Kg(ps:List (List Int))(b:List Int):(f0 ps b).length<=ps.length:=List.length_filterMap_le ..
theorem Ka{e:Int}{sc:List Sn}{rl:List Rl}(hS:StoryOk e sc rl)(b:List Int):Lib.compact (Ha (f0 (aX e sc rl) b))=u4 sc.length (aX e sc rl) b:=by
 obtain⟨h1,h2⟩:=Iy (f0 (aX e sc rl) b);refine foll_eq h1 h2 fun x hx=>?_
 obtain⟨p,hp,_,_,hg⟩:=Kd.1 hx;have:=(hS.plays_fine p hp).2.2 x (DU hg)
 omega
theorem foll_nil{e:Int}{sc:List Sn}{rl:List Rl}(hS:StoryOk e sc rl)(b:List Int):decide ((f0 (aX e sc rl) b).length=0)=decide ((u4 sc.length (aX e sc rl) b).length=0):=by
 rw[←Ka hS,Fa,Ew,Ew];have h2:=(Iy (f0 (aX e sc rl) b)).2;constructor
 ·intro h
  rw[List.eq_nil_iff_forall_not_mem];intro x hx;have:=(h2 x).1 hx
  rw[h]at this;cases this
 ·intro h
  rw[List.eq_nil_iff_forall_not_mem];intro x hx;have:=(h2 x).2 hx
  rw[h]at this;cases this
def cfR3:CallF:=aE (aE (aE cfZ 59 c95) 60 c96) 61 c97f
theorem q6:CallFOk prog cfR3:=ah (ah (ah cI c95_ok) c96_ok) c97f_ok
theorem KI(s:Sty)(hok:s.ok=true)(z:Z)(b:List Int)(hz:zOk z (b.map ii)=true):ab prog 22 [.agg s.cells,.sl z (b.map ii)] [] (.ret (r8 s b)) []:=by
 refine ab.ofF hTT func22 rfl rfl ?_;have hd:=aS s hok;have h1:=ap s.sc;have h2:=ao s.rz;have hdq:aN (.sl z (b.map ii))=some b:=aI hz;have hcq:=ac b;unfold r8;cases hst:s.story
 ·repeat with_reducible first|refine nz q6 ?_|apply ny;simp only[f22,cfR3,cfZ,c87,hd,hst,h1,h2,go_sem];rfl
  exact⟨rfl,rfl,_,rfl,aq rfl⟩
 have hS:=Sty.story_ok hst;have h8:s.sc.length<=1000:=by have:=hS.s8;omega
 cases ha:Do s.sc.length b 0
 ·repeat with_reducible first|refine nz q6 ?_|apply ny;simp only[f22,cfR3,cfZ,c87,c90,hd,hst,hdq,hcq,ha,h1,h2,h8,go_sem];rfl
  exact⟨rfl,rfl,_,rfl,aq rfl⟩
 have hbl:b.length<=10:=by unfold Do at ha;rw[D3]at ha;exact Eu ha.1
 have hp:=Sty.story_parts hst;have hdt:=eD s hok hst;have h3:=ac s.mm;have h4:=ac s.ln;have h5:=aC (aX s.e s.sc s.rl);have hP40:=co hS;have hfine:=hS.plays_fine;have hfs:=Ka hS b;have hfn:=foll_nil hS b;have hcl:=KK (u4 s.sc.length (aX s.e s.sc s.rl) b);unfold isV at hcl ⊢;repeat with_reducible first|refine nz q6 ?_|apply ny;simp only[f22,cfR3,cfZ,c87,c88,c89,c90,plsV_def,hd,hst,hp,hdt,hdq,hcq,ha,h1,h2,h3,h4,h5,h8,go_sem];rfl
 have hzn:=plZ_n (l:=aX s.e s.sc s.rl);generalize plZ (aX s.e s.sc s.rl)=zz at *;generalize aX s.e s.sc s.rl=P at *;generalize u4 s.sc.length P b=F at *;refine am.keep [25,24,23,7,6,1] (by simp only[go_sem];rfl) ?_
 refine am.nilRow 7 3 1 (by simp only[go_sem]) (by simp only[go_sem];rfl) (by simp only[go_sem];rfl) ?_
 refine am.loop (fun i s'=>s'=⟨[(25,ii (i:Nat)),(24,ii (P.length:Nat)),(23,.sl zz (P.map slx)),(7,.ms 1 (f0 (P.take i) b).length),(6,ii (b.length:Nat)),(1,.sl z (b.map ii))],52,[.var s.cells false,.row (decide ((f0 (P.take i) b).length=0)) 3 1 ((f0 (P.take i) b).map ii) false]⟩) P.length (by simp only[go_sem];rfl) ?_
 rintro i _ hi rfl;by_cases hlt:i<P.length
 ·obtain⟨x,hx⟩:=gex hlt
  have hx':(P.map slx)[i]?=some (.sl .a (x.map ii)):=aw hx;have hlt':(i:Int)<P.length:=by omega
  have hzz:zz≠.n:=fun e=>by rw[hzn e]at hlt;simp at hlt
  have e4:=wIs i (by omega)
  have hcx:=ac x;have hxl:x.length<=100000:=by have:=hfine x (DU hx);omega
  have htk:=KE (b:=b) hx;have hMl:(f0 (P.take i) b).length<=40:=Em (Kg _ _) (by rw[En];omega)
  generalize f0 (P.take i) b=A at htk hMl ⊢;by_cases hlen:b.length<x.length
  ·have hlen':((b.length:Nat):Int)<(x.length:Int):=by omega
   have r0:(0:Int)<=(b.length:Nat):=by omega
   have r1:((b.length:Nat):Int)<=(x.length:Int):=by omega
   have ht1:List.take b.length (x.map ii)=(x.take b.length).map ii:=Fo.symm;have hdx:aN (.sl .a ((x.take b.length).map ii))=some (x.take b.length):=aI rfl;have hct:=ac (x.take b.length);have htl:min b.length x.length<=maxLen:=by unfold maxLen;omega
   by_cases heq:x.take b.length=b
   ·obtain⟨y,hy⟩:∃y,x[b.length]?=some y:=⟨_,DT hlen⟩
    have hy':(x.map ii)[b.length]?=some (ii y):=aw hy;have hde:decide (x.take b.length=b)=true:=Ej heq;rw[DZ ⟨hlen,heq⟩,hy]at htk;have htk:f0 (P.take (i+1)) b=A++[y]:=htk;have q1:(A.length+1)*8<=140737488355328:=by omega
    have q2:A.length+1<=maxLen:=by unfold maxLen;omega
    have hl2:bD 2 (A.map ii++[PV.int .i64 y])=true:=by
     have:=aF 2 (A++[y])
     rw[Ec]at this;exact this
    have hm2:(A++[y]).map ii=A.map ii++[PV.int .i64 y]:=by rw[Ec];rfl
    have hn2:(A++[y]).length=A.length+1:=by simp
    have hd1:decide (A.length+1=0)=false:=by simp
    repeat with_reducible first|refine nz q6 ?_|apply ny;simp only[f22,cfR3,cfZ,c95,hx',hlt',hzz,hlen',r0,r1,ht1,gE,lq,hdx,hct,htl,hdq,hcx,hcq,hxl,hde,hy',e4,q1,q2,EW,go_sem];rfl
    refine ak.t 2 [25,24,23,7,6,1] hlt (by simp only[aA,az,aF,an,bL,hl2,go_sem]) (by rw[htk,hm2,hn2,hd1];simp only[go_sem])
   ·have hde:decide (x.take b.length=b)=false:=Ei heq
    rw[D5 (fun h=>heq h.2)]at htk
    have htk:f0 (P.take (i+1)) b=A:=by rw[htk];exact Er _
    repeat with_reducible first|refine nz q6 ?_|apply ny;simp only[f22,cfR3,cfZ,c95,hx',hlt',hzz,hlen',r0,r1,ht1,gE,lq,hdx,hct,htl,hdq,hcx,hcq,hxl,hde,e4,EW,go_sem];rfl
    refine ak.t 2 [25,24,23,7,6,1] hlt (by simp only[aA,az,aF,an,bL,go_sem]) (by rw[htk];simp only[go_sem])
  ·have hlen':¬((b.length:Nat):Int)<(x.length:Int):=by omega
   rw[D5 (fun h=>hlen h.1)]at htk
   have htk:f0 (P.take (i+1)) b=A:=by rw[htk];exact Er _
   repeat with_reducible first|refine nz q6 ?_|apply ny;simp only[f22,cfR3,hx',hlt',hzz,hlen',hcx,e4,EW,go_sem];rfl
   refine ak.t 2 [25,24,23,7,6,1] hlt (by simp only[aA,az,aF,an,bL,go_sem]) (by rw[htk];simp only[go_sem])
 ·have hlt':¬(i:Int)<P.length:=by omega
  obtain rfl:i=P.length:=by omega
  rw[Eg];have hnl:(f0 P b).length<=100000:=Em (Kg _ _) (by omega)
  have hdn:=j8 (f0 P b);have hds:=j8 (Ha (f0 P b));have hsl:=Iu (f0 P b);have hcm:(decide (F.length=0)&&!decide (F.length=0))=false:=by cases decide (F.length=0) <;> rfl
  repeat with_reducible first|refine nz q6 ?_|apply ny;simp only[f22,cfR3,cfZ,c96,c97f,hlt',hnl,hdn,hds,hsl,hcm,hfs,hfn,go_sem];rfl
  exact⟨rfl,rfl,_,rfl,aq (by simp[tup,PV.closed,ad,ac])⟩
def c37:Tb_
 |[v,w],sg=>match cS v,aN w with
  |some s,some p=>some (.ret (r8 s p),sg)
  |_,_=>none
 |_,_=>none
theorem c37_ok:al prog 22 c37:=al.of0 (ent func22 rfl) fun args sg r sg' h=>by
 unfold c37 at h;split at h <;> try (cases h;done)
 split at h <;> cases h
 rename_i s p h1 h2;obtain⟨rfl,hok⟩:=aM h1;obtain⟨z,rfl,hz⟩:=aJ h2;exact⟨_,rfl,rfl,by rw[af,cm,af,bt];rfl,KI s hok z p (qy hz)⟩
end Go.Pv
