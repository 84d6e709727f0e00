import Derived.Test.YtkjalecddameoaaGreatDoorQmNt
import Derived.Test.YtkjalecddameoaaGreatDoorQgStory
set_option linter.all false
open Go.Proofs.Tryz
namespace Go.Pv
open Go Go.RowKit Go.Proofs
set_option maxRecDepth 200000
set_option maxHeartbeats 8000000
theorem eqI(a b:Int):eqT (TT 3) (ii a) (ii b)=some ((a==b)&&true):=by kernel_rfl
theorem keyI(x:Int):eP (TT 3) (ii x)=true:=by kernel_rfl
theorem m5(x:Int):∀(c:List Nat) (j:Nat),(∀y∈c,(y:Int)≠x)->e9 (TT 3) (ii x) (nn c) j=some none
 |[],_,_=>rfl
 |b::c,j,h=>by
  have h1:((x==(b:Int))&&true)=false:=by
   rw[Fi,EF];exact fun e=>h b DV e.symm
  show(match eqT (TT 3) (ii x) (ii (b:Int)),e9 (TT 3) (ii x) (nn c) (j+1)with
   |some true,some none=>some (some j)
   |some false,r=>r
   |_,_=>none)=some none
  rw[eqI,h1,m5 x c (j+1) fun y hy=>h y (DW _ hy)]
theorem vk(x:Nat):∀(c:List Nat) (j:Nat),c.Nodup->x∈c->∃k,e9 (TT 3) (ii (x:Int)) (nn c) j=some (some (j+k))∧k<c.length
 |[],_,_,h=>by cases h
 |b::c,j,hn,h=>by
  obtain⟨n1,n2⟩:=Gc.1 hn;have hd:e9 (TT 3) (ii (x:Int)) (nn (b::c)) j=(match eqT (TT 3) (ii (x:Int)) (ii (b:Int)),e9 (TT 3) (ii (x:Int)) (nn c) (j+1)with
   |some true,some none=>some (some j)
   |some false,r=>r
   |_,_=>none):=rfl
  by_cases hb:x=b
  ·subst hb
   refine⟨0,?_,by simp⟩
   rw[hd,eqI,Fe,m5 (x:Int) c (j+1) fun y hy e=>n1 (by rw[←Int.ofNat.inj e];exact hy)]
   rfl
  ·have hxc:x∈c:=by
    rcases D6.1 h with h|h
    ·exact absurd h hb
    ·exact h
   obtain⟨k,e1,e2⟩:=vk x c (j+1) n2 hxc;have h1:(((x:Int)==(b:Int))&&true)=false:=by
    rw[Fi,EF];omega
   refine⟨k+1,?_,by rw[Ek];omega⟩
   rw[hd,eqI,h1,e1];show some (some (j+1+k))=some (some (j+(k+1)));rw[show j+1+k=j+(k+1)by omega]
def mv(c:List Nat):List PV:=c.map fun _=>.agg []
theorem mv_app(a b:List Nat):mv (a++b)=mv a++mv b:=Ec ..
theorem mv_get{c:List Nat}{k:Nat}(h:k<c.length):(mv c)[k]?=some (.agg []):=by unfold mv;rw[Eh,DT h];rfl
theorem vG(c:List Nat):ad (mv c)=true:=aY (fun _=>rfl) c
theorem AR(m:Nat)(c:List Nat):bD m (mv c)=true:=ae m _ (vG c)
theorem qJ(n:Nt)(z zs:Z)(l:List Sn)(c:List Nat)(hz:z=.n->l=[])(hzs:zs=.n->c=[])(hl:l.length<=1000)(hc:c.length<=1000)(hnd:c.Nodup):ab prog 176 [.agg (plC n z l),.sl zs (nn c)] [] (.ret (.bool (chB l 0 c))) []:=by
 refine ab.of0 hTT func176 rfl rfl ?_;have hko:=keyI;have hfn:=m5;have hfi:=vk;rw[T_3]at hko hfn hfi;repeat with_reducible first|refine nz aa ?_|apply ny;simp only[f176,lD,cz,go_sem];rfl
 refine am.keep [17,16,15,5,2] (by simp only[go_sem];rfl) ?_
 refine am.loop (fun i s'=>s'=⟨[(17,ii (i:Nat)),(16,ii (c.length:Nat)),(15,.sl zs (nn c)),(5,.mp 1),(2,.bp 0 0)],66,[.var (plC n z l) false,.map (nn (c.take i)) (mv (c.take i)) false]⟩) c.length rfl ?_
 rintro i _ hi rfl;by_cases hlt:i<c.length
 ·obtain⟨x,hx⟩:=gex hlt
  have hx':=mz hx;have hlt':(i:Int)<c.length:=by omega
  have hzs':zs≠.n:=fun e=>by rw[hzs e]at hlt;simp at hlt
  have e4:=wIs i (by omega)
  have hf:=hfn (x:Int) (c.take i) 0 fun y hy e=>by
   have e:y=x:=Int.ofNat.inj e;subst e;have hsp:c=c.take i++y::c.drop (i+1):=by rw[←aP hx,Ff]
   rw[hsp]at hnd;exact(IM.1 hnd).2.2 y hy y DV rfl
  have hk:=hko (x:Int);have hst:nn (c.take (i+1))=nn (c.take i)++[ii (x:Int)]:=by rw[Ev,hx,oK];rfl
  have hst2:mv (c.take (i+1))=mv (c.take i)++[.agg []]:=by rw[Ev,hx,mv_app];rfl
  have ha:=cb 2 (c.take (i+1));have hb:=AR 2 (c.take (i+1));rw[hst]at ha;rw[hst2]at hb;generalize nn (c.take i)=A at hst hf ha;generalize mv (c.take i)=B at hst2 hb;repeat with_reducible first|refine nz aa ?_|apply ny;simp only[f176,hx',hlt',hzs',e4,cN,xc,hf,hk,cz,go_sem];rfl
  refine ak.t 2 [17,16,15,5,2] hlt (by simp only[cb,aK,an,ha,hb,go_sem]) (by rw[hst,hst2];first|(simp only[go_sem];first|done|rfl)|rfl)
 have hlt':¬(i:Int)<c.length:=by omega
 obtain rfl:i=c.length:=by omega
 rw[Eg];repeat with_reducible first|refine nz aa ?_|apply ny;simp only[f176,hlt',go_sem];rfl
 refine am.keep [28,27,26,5] (by simp only[go_sem];rfl) ?_
 have hf1:=hfn (-1) c 0 fun y _ e=>by omega
 have hk1:=hko (-1);refine am.loop (fun i s'=>chB l 0 c=chB (l.drop i) i c∧s'=⟨[(28,ii (i:Nat)),(27,ii (l.length:Nat)),(26,.sl z (l.map cH)),(5,.mp 1)],66,[.var (plC n z l) false,.map (nn c) (mv c) false]⟩) l.length ⟨rfl,rfl⟩ ?_
 rintro i _ hi ⟨hm,rfl⟩;by_cases hil:i<l.length
 ·obtain⟨x,hx⟩:=gex hil
  have hx':=cU hx;have hil':(i:Int)<l.length:=by omega
  have hz':z≠.n:=fun e=>by rw[hz e]at hil;simp at hil
  have e4:=wIs i (by omega)
  have hn1:¬(0:Int) <= -1:=by decide
  have hk:=hko (i:Int);rw[aP hx,chB]at hm;by_cases hin:i∈c
  ·obtain⟨k,hf,hkl⟩:=hfi i c 0 hnd hin
   rw[EG]at hf;have hv:=mv_get hkl;have hm:chB l 0 c=chB (l.drop (i+1)) (i+1) c:=by rw[hm,Ej hin,Bool.or_true];rfl
   repeat with_reducible first|refine nz aa ?_|apply ny;simp only[f176,hx',hil',hz',e4,eI,xc,hf,hk,hv,hf1,hk1,hn1,EO,go_sem];rfl
   refine ak.t 2 [28,27,26,5] hil (by simp only[cb,aK,an,AR,go_sem]) ⟨hm,by first|(simp only[go_sem];first|done|rfl)|rfl⟩
  ·have hf:=hfn (i:Int) c 0 fun y hy e=>hin (by rw[←Int.ofNat.inj e];exact hy)
   cases hxl:x.loose
   ·rw[hxl]at hx'
    repeat with_reducible first|refine nz aa ?_|apply ny;simp only[f176,hx',hil',hz',eI,xc,hf,hk,hf1,hk1,go_sem];rfl
    refine⟨rfl,rfl,_,rfl,?_⟩;rw[hm,hxl,Ei hin];rfl
   ·rw[hxl]at hx'
    have hm:chB l 0 c=chB (l.drop (i+1)) (i+1) c:=by rw[hm,hxl,Bool.true_or];rfl
    repeat with_reducible first|refine nz aa ?_|apply ny;simp only[f176,hx',hil',hz',e4,eI,xc,hf,hk,hf1,hk1,go_sem];rfl
    refine ak.t 2 [28,27,26,5] hil (by simp only[cb,aK,an,AR,go_sem]) ⟨hm,by first|(simp only[go_sem];first|done|rfl)|rfl⟩
 ·have hil':¬(i:Int)<l.length:=by omega
  obtain rfl:i=l.length:=by omega
  rw[EL]at hm;repeat with_reducible first|refine nz aa ?_|apply ny;simp only[f176,hil',go_sem];rfl
  refine⟨rfl,rfl,_,rfl,?_⟩;rw[hm];rfl
def ov:List Nat->Bool
 |[]=>true
 |x::l=>!l.contains x&&ov l
theorem nodup_iff:∀{l:List Nat},ov l=true↔l.Nodup
 |[]=>by simp[ov]
 |x::l=>by
  rw[ov,D3,nodup_iff,Gc,GB,←JA,GI]
def c176:Tb_
 |[v,w],sg=>match eS v,gN w with
  |some (_,_,l),some c=>if(l.length<=1000∧c.length<=1000)∧ov c=true then some (.ret (.bool (chB l 0 c)),sg)else none
  |_,_=>none
 |_,_=>none
theorem y5:al prog 176 c176:=al.of0 (ent func176 rfl) fun args sg r sg' h=>by
 unfold c176 at h;split at h <;> try (cases h;done)
 split at h <;> try (cases h;done)
 rename_i n z l c h1 h2;split at h <;> cases h
 rename_i hc;obtain⟨rfl,hz⟩:=b8 h1;obtain⟨zs,rfl,hzs⟩:=cW h2;exact⟨_,rfl,rfl,by rw[af,af,fi,fB];rfl,qJ n z zs l c hz hzs hc.1.1 hc.1.2 (nodup_iff.1 hc.2)⟩
def slC(c:List Nat):PV:=.sl (if c=[]then .f else .a) (nn c)
def resH(L:List (List Nat)):List (List PV):=L.map fun c=>[slC c]
theorem uK(L M:List (List Nat)):resH (L++M)=resH L++resH M:=Ec ..
def up(l:List Sn)(R:List Nat)(m i:Nat):List (List Nat):=((c7 l.length m i).map (R++·)).filter (chB l 0)
theorem yT(l:List Sn)(R:List Nat)(i:Nat):up l R 0 i=if chB l 0 R=true then[R]else[]:=by
 unfold up;rw[c7,EE,E9,Er,EZ,GM]
theorem choR_few{l:List Sn}{R:List Nat}{m i:Nat}(hm:1<=m)(h:l.length<i+m):up l R m i=[]:=by
 unfold up;rw[uX m i (by omega)];rfl
theorem xV{l:List Sn}{R:List Nat}{m i:Nat}(h:i<l.length):up l R (m+1) i=up l (R++[i]) m (i+1)++up l R (m+1) (i+1):=by
 unfold up;rw[←Ft]
 congr 1
 rw[c7,show l.length-i=(l.length-(i+1))+1 by omega,Fd,E2,Ec,Fb,c7]
 congr 1
 apply EP;intro c _;show R++i::c=R++[i]++c;rw[Et];rfl
theorem uJ(R:List Nat):(bH R).length=R.length:=DX ..
theorem vI:ab prog 202 [.sl .a []] [] (.ret (.sl .f [])) []:=by
 refine ab.of0 hTT func202 rfl rfl ?_;have ez:(Z.a==Z.n)=false:=rfl;repeat with_reducible first|refine nz aa ?_|apply ny;simp only[f202,ez,go_sem];rfl
 exact⟨rfl,rfl,_,rfl,rfl⟩
def c202e:Tb_
 |[.sl .a []],[]=>some (.ret (.sl .f []),[])
 |_,_=>none
theorem c202e_ok:al prog 202 c202e:=fun args sg r sg' h=>by
 unfold c202e at h;split at h <;> cases h
 exact⟨ent func202 rfl,vI,aD _ _ rfl⟩
def cfM:CallF:=aE (aE cf0 176 c176) 202 c202
theorem cfM_ok:CallFOk prog cfM:=ah (ah aa y5) yO
def cfMe:CallF:=aE (aE cf0 176 c176) 202 c202e
theorem cfMe_ok:CallFOk prog cfMe:=ah (ah aa y5) c202e_ok
theorem yield_row{P:Program}{id M:Nat}{S D:List Box}{R:List Int}{r:PRes}{sg':List Box}(hS:S.length=M)(hid:id<M)
 (h:YieldOk P id [.sl .a (R.map ii)] (S++.row false 3 1 (R.map ii) true::D) r sg'):YieldOk P id [.ms M R.length] (S++.row false 3 1 (R.map ii) false::D) r sg':=by
 subst hS;have hget:(S++Box.row false 3 1 (R.map ii) false::D)[S.length]?=some (.row false 3 1 (R.map ii) false):=dS S _;have hrows:bW (S++Box.row false 3 1 (R.map ii) false::D) [S.length]=S++.row false 3 1 (R.map ii) true::D:=by
  unfold bW;simp only[hget,bW];rw[bE (n:=4) (flat (R.map ii)) _ (bj _ (ac R))];simp only[bx];exact gq _ _ _
 refine h.ghost (by simp;omega) ?_ ?_
 ·have:=aL.rows [S.length] (S++Box.row false 3 1 (R.map ii) false::D) ⟨ik 0 [.ms S.length R.length],1,S++Box.row false 3 1 (R.map ii) false::D⟩ rfl
  rw[hrows]at this;exact this
 ·have hg2:(S++Box.row false 3 1 (R.map ii) true::D)[S.length]?=some (.row false 3 1 (R.map ii) true):=dS S _
  have hv:view1 (S++Box.row false 3 1 (R.map ii) true::D) (.ms S.length R.length)=some (.sl .a (R.map ii)):=by
   unfold view1;simp[hg2]
  simp only[iU,dh,hv]
theorem cho_no(nt:Nt)(zp:Z)(l:List Sn)(hz:zp=.n->l=[])(hlf:l.map nof=l)(hll:l.length<=1000)(id k0 i:Nat)(fnv:PV)(R:List Nat)(r:List Int)(low:List Box)(hRn:R.Nodup)(hRl:R.length<=1000)(htk:r.take R.length=bH R)(hrl:R.length<=r.length)(hch:chB l 0 R=false)(hk:low.length=k0)(h0:OwnOk 0 low)(B0:List Box)(K:Nat)(hK:k0+(4+B0.length)=K)(hB:∀x∈B0,x.Lt K)(hfn:Pv.Lt K fnv)(hid:id<k0):
 ab prog 228 [ii i,ii (0:Nat),.ip (plC nt zp l),.bp (k0+1) 0,.bp k0 0,.bp (k0+2) 0] (stk id fnv B0 low (.pf (k0+3) R.length r.length) false (r.map ii) []) (.ret (.bool true)) (stk id fnv B0 low (.pf (k0+3) R.length r.length) false (r.map ii) []):=by
 have hcle:=ac r;refine ab.ofB hTT func228 rfl rfl ?_ rfl (by rw[mM hk hK];exact jM hk hK h0 hid (.pf (by omega)) hfn hcle hB (fun x hx=>by cases hx)) .bool
 have g0:=stk0 (id:=id) (fnv:=fnv) (B0:=B0) hk;have g1:=stk1 (id:=id) (fnv:=fnv) (B0:=B0) hk;have g3:=stk3 (id:=id) (fnv:=fnv) (B0:=B0) hk;have gL:=mM (id:=id) (fnv:=fnv) (B0:=B0) hk hK;have gA:=lH id fnv B0 low;have gG:=stkG (id:=id) (fnv:=fnv) (B0:=B0) hk hK;have gG0:=yu (id:=id) (fnv:=fnv) (B0:=B0) hk hK;have gS:=stkS (id:=id) (fnv:=fnv) (B0:=B0) hk hK;have gS0:=stkS0 (id:=id) (fnv:=fnv) (B0:=B0) hk hK;obtain⟨Ri,hRi⟩:∃Ri,Ri=bH R:=⟨_,rfl⟩;have hmk:(r.map ii).take R.length=Ri.map ii:=by rw[←Fo,htk,hRi]
 have hd1:gN (.sl .a (Ri.map ii))=some R:=by rw[hRi,←pG];exact dm fun e=>by cases e
 have hcR:ad (Ri.map ii)=true:=ac Ri;have hnd:=nodup_iff.2 hRn;have hdp:=dt (n:=nt) hz hlf;have hcl:=ay l;repeat with_reducible first|(fail_if_success refine am.seq (x:=.region 2 _ _) ?_);(fail_if_success show am _ (.region 2 _ _) _ _);refine nz aa ?_|apply ny;simp only[f228,go_sem];rfl
 refine am.seq ?_;refine am.drawn [] hTT cfM_ok cP mixed (by kernel_rfl) (by simp only[gA,go_sem];rfl) ?_
 iterate 11 (apply AZ.step;(focus (simp only[f228,g0,g1,g3,gG,gG0,gS,gS0,gL,gA,hmk,hdp,hd1,hcl,hcR,hnd,hll,hRl,hch,cfM,c176,go_sem];with_reducible rfl)))
 refine AZ.nil ⟨fJ [k0,k0+1,K,k0+3,K+1,K+1+1] [(false,none,[]),(false,none,[1]),(false,none,[2,3]),(false,none,[]),(false,none,[]),(false,none,[0]),(false,none,[1]),(false,none,[4]),(false,none,[5]),(false,none,[]),(false,none,[])] (by simp;omega) (by kernel_rfl) rfl (by kernel_rfl),?_⟩
 repeat with_reducible first|refine nz aa ?_|apply ny;simp only[f228,go_sem];rfl
 refine⟨rfl,?_,rfl,[.dead,.dead,.dead],by simp only[gA,go_sem]⟩
 have:=SameLoops.app [.dead,.dead,.dead] rfl (SameLoops.refl (stk id fnv B0 low (.pf (k0+3) R.length r.length) false (r.map ii) []))
 rw[lH]at this;exact this
theorem cho_yes(nt:Nt)(zp:Z)(l:List Sn)(hz:zp=.n->l=[])(hlf:l.map nof=l)(hll:l.length<=1000)(id k0 i:Nat)(fnv:PV)(R:List Nat)(r:List Int)(low low':List Box)(b:Bool)(hRn:R.Nodup)(hRl:R.length<=1000)(htk:r.take R.length=bH R)(hrl:R.length<=r.length)(hch:chB l 0 R=true)(hk:low.length=k0)(h0:OwnOk 0 low)(B0:List Box)(K:Nat)(hK:k0+(4+B0.length)=K)(hB:∀x∈B0,x.Lt K)(hfn:Pv.Lt K fnv)(hid:id<k0)
 (hY:YR prog id [slC R] low b low') :
 ab prog 228 [ii i,ii (0:Nat),.ip (plC nt zp l),.bp (k0+1) 0,.bp k0 0,.bp (k0+2) 0] (stk id fnv B0 low (.pf (k0+3) R.length r.length) false (r.map ii) []) (.ret (.bool b)) (stk id fnv B0 low' (.pf (k0+3) R.length r.length) false (r.map ii) []):=by
 obtain⟨hl',h0',hown⟩:=hY;have hk':low'.length=k0:=by omega
 have hcle:=ac r;have hvl:∀n,Pv.Lt (K+n) (.pf (k0+3) R.length r.length):=fun n=>.pf (by omega)
 refine ab.ofB hTT func228 rfl rfl ?_ (by rw[mM hk hK,mM hk' hK]) (by rw[mM hk hK];exact jM hk' hK h0' hid (hvl _) hfn hcle hB (fun x hx=>by cases hx)) .bool
 have g0:=stk0 (id:=id) (fnv:=fnv) (B0:=B0) hk;have g1:=stk1 (id:=id) (fnv:=fnv) (B0:=B0) hk;have g3:=stk3 (id:=id) (fnv:=fnv) (B0:=B0) hk;have gL:=mM (id:=id) (fnv:=fnv) (B0:=B0) hk hK;have gA:=lH id fnv B0 low;have gG:=stkG (id:=id) (fnv:=fnv) (B0:=B0) hk hK;have gG0:=yu (id:=id) (fnv:=fnv) (B0:=B0) hk hK;have gS:=stkS (id:=id) (fnv:=fnv) (B0:=B0) hk hK;have gS0:=stkS0 (id:=id) (fnv:=fnv) (B0:=B0) hk hK;obtain⟨Ri,hRi⟩:∃Ri,Ri=bH R:=⟨_,rfl⟩;have hmk:(r.map ii).take R.length=Ri.map ii:=by rw[←Fo,htk,hRi]
 have hd1:gN (.sl .a (Ri.map ii))=some R:=by rw[hRi,←pG];exact dm fun e=>by cases e
 have hcR:ad (Ri.map ii)=true:=ac Ri;have hnd:=nodup_iff.2 hRn;have hdp:=dt (n:=nt) hz hlf;have hcl:=ay l;have hs1:SameLoops (stk id fnv B0 low (.pf (k0+3) R.length r.length) false (r.map ii) []) (stk id fnv B0 low' (.pf (k0+3) R.length r.length) false (r.map ii) []):=(hown _ (by rw[hk];exact kB (z:=false) (es:=r.map ii) (C:=[]) hK hid (hvl _) hfn hcle hB (fun x hx=>by cases hx))).2
 have hgen:∀C:List Box,(∀x∈C,x.Lt (K+C.length))->YieldOk prog id [slC R] (stk id fnv B0 low (.pf (k0+3) R.length r.length) false (r.map ii) C) (.ret (.bool b)) (stk id fnv B0 low' (.pf (k0+3) R.length r.length) false (r.map ii) C):=fun C hC =>
  (hown _ (by rw[hk];exact kB (z:=false) (es:=r.map ii) (C:=C) hK hid (hvl _) hfn hcle hB hC)).1
 have fin:∀C:List Box,dl C=true->SameLoops (stk id fnv B0 low (.pf (k0+3) R.length r.length) false (r.map ii) []) (stk id fnv B0 low' (.pf (k0+3) R.length r.length) false (r.map ii) C):=fun C hC=>by
  have:=SameLoops.app C hC hs1
  rw[lH]at this;exact this
 repeat with_reducible first|(fail_if_success refine am.seq (x:=.region 2 _ _) ?_);(fail_if_success show am _ (.region 2 _ _) _ _);refine nz aa ?_|apply ny;simp only[f228,go_sem];rfl
 by_cases hR0:R=[]
 ·subst hR0
  have e0:slC []=.sl .f []:=rfl;rw[e0]at hgen;have hd0:gN (.sl .a [])=some []:=rfl;have hy2:=hgen [.dead,.dead,.dead] (fun x hx=>by
   simp only[D6,Eb,EM]at hx;rcases hx with rfl|rfl|rfl <;> exact trivial)
  have hs2:SameLoops (stk id fnv B0 low (.pf (k0+3) 0 r.length) false (r.map ii) [.dead,.dead,.dead]) (stk id fnv B0 low' (.pf (k0+3) 0 r.length) false (r.map ii) [.dead,.dead,.dead]):=by
   have:=dQ hs1 (C:=[.dead,.dead,.dead]) (C':=[.dead,.dead,.dead]) rfl rfl
   rw[lH,lH]at this;exact this
  refine am.seq ?_;refine am.drawnY [] hTT cfMe_ok (p8 hy2 hs2) cP mixed (by kernel_rfl) (by simp only[gA,go_sem];rfl) ?_
  iterate 8 (apply cT.step;(focus (simp only[f228,g0,g1,g3,gG,gG0,gS,gS0,gL,gA,hdp,hd0,hcl,hll,hch,ov,cfMe,c176,c202e,Gz,ET,go_sem];with_reducible rfl)))
  refine cT.full rfl (by simp only[go_sem]) (by simp only[go_sem]) (by simp only[go_sem]) (by simp only[xM,go_sem];rfl) ?_
  iterate 2 (apply cT.step;(focus (simp only[go_sem];rfl)))
  refine cT.nil ⟨fJ [k0,k0+1,K,k0+3,K+1,K+1+1,id] [(false,none,[]),(false,none,[1]),(false,none,[2,3]),(false,none,[]),(false,none,[]),(false,none,[0]),(false,none,[1]),(false,none,[4,3]),(true,none,[5,6]),(false,none,[]),(false,none,[])] (by simp;omega) (by kernel_rfl) rfl (by kernel_rfl),?_⟩
  repeat with_reducible first|refine nz aa ?_|apply ny;simp only[f228,go_sem];rfl
  exact⟨rfl,fin _ rfl,rfl,_,(lH id fnv B0 low' _ _ _ [] _).symm⟩
 ·have e0:slC R=.sl .a (Ri.map ii):=by unfold slC;rw[D5 hR0,hRi,pG]
  have hRl2:Ri.length=R.length:=by rw[hRi,uJ]
  have hRn2:Ri≠[]:=fun e=>by rw[e]at hRl2;exact hR0 (EB hRl2.symm)
  have hRb:Ri.length<=100000:=by omega
  rw[e0]at hgen;have hdec:dM ld (Ri.map ii)=some Ri:=j8 Ri;have hpR:(flat (Ri.map ii)).all plain1=true:=by
   rw[sG,FS];exact D7.2 fun _ _=>rfl
  have oC:∀(f:Bool),∀x∈[Box.dead,.row false 3 1 (Ri.map ii) f,.dead],x.Lt (K+3):=fun f x hx=>by
   simp only[D6,Eb,EM]at hx;rcases hx with rfl|rfl|rfl
   ·exact trivial
   ·exact(dD (show(Box.row false 3 1 (Ri.map ii) f).ltB 0=true from ae 0 _ (ac _))).mono (Ee _)
   ·exact trivial
  have hy1:=hgen [.dead,.row false 3 1 (Ri.map ii) true,.dead] (oC true);have hy2:YieldOk prog id [.ms (K+1) Ri.length] (stk id fnv B0 low (.pf (k0+3) R.length r.length) false (r.map ii) [.dead,.row false 3 1 (Ri.map ii) false,.dead]) (.ret (.bool b)) (stk id fnv B0 low' (.pf (k0+3) R.length r.length) false (r.map ii) [.dead,.row false 3 1 (Ri.map ii) true,.dead]):=by
   have e1:∀f,stk id fnv B0 low (.pf (k0+3) R.length r.length) false (r.map ii) [.dead,.row false 3 1 (Ri.map ii) f,.dead]=stk id fnv B0 low (.pf (k0+3) R.length r.length) false (r.map ii) [.dead]++.row false 3 1 (Ri.map ii) f::[.dead]:=fun f=>by rw[gA];rfl
   rw[e1];refine yield_row (by rw[gL];rfl) (by omega) ?_
   rw[←e1];exact hy1
  have hs2:SameLoops (stk id fnv B0 low (.pf (k0+3) R.length r.length) false (r.map ii) [.dead,.row false 3 1 (Ri.map ii) false,.dead]) (stk id fnv B0 low' (.pf (k0+3) R.length r.length) false (r.map ii) [.dead,.row false 3 1 (Ri.map ii) true,.dead]):=by
   have:=dQ hs1 (C:=[.dead,.row false 3 1 (Ri.map ii) false,.dead]) (C':=[.dead,.row false 3 1 (Ri.map ii) true,.dead]) rfl rfl
   rw[lH,lH]at this;exact this
  refine am.seq ?_;refine am.drawnY [] hTT cfM_ok (p8 hy2 hs2) cP mixed (by kernel_rfl) (by simp only[gA,go_sem];rfl) ?_
  iterate 8 (apply cT.step;(focus (simp only[f228,g0,g1,g3,gG,gG0,gS,gS0,gL,gA,hmk,hdp,hd1,hdec,hcl,hcR,hnd,hll,hRl,hch,hRn2,hRb,hpR,cfM,c176,c202,go_sem];with_reducible rfl)))
  refine cT.full rfl (by simp only[go_sem]) (by simp only[go_sem]) (by simp only[go_sem]) (by simp only[xM,go_sem];rfl) ?_
  iterate 2 (apply cT.step;(focus (simp only[go_sem];rfl)))
  refine cT.nil ⟨fJ [k0,k0+1,K,k0+3,K+1,K+1+1,id] [(false,none,[]),(false,none,[1]),(false,none,[2,3]),(false,none,[]),(false,none,[]),(false,none,[0]),(false,none,[1]),(false,some 4,[4,3]),(true,none,[5,6,4]),(false,none,[]),(false,none,[])] (by simp;omega) (by kernel_rfl) rfl (by kernel_rfl),?_⟩
  repeat with_reducible first|refine nz aa ?_|apply ny;simp only[f228,go_sem];rfl
  exact⟨rfl,fin _ rfl,rfl,_,(lH id fnv B0 low' _ _ _ [] _).symm⟩
theorem putL_ge{l:List Int}{d:Nat}{i:Int}:l.length<=(pt l d i).length:=by
 unfold pt;split
 ·simp
 ·simp
theorem ui(R:List Nat)(i:Nat):bH (R++[i])=bH R++[(i:Int)]:=Ec ..
theorem iO{R:List Nat}(h:R.Pairwise (·<·)):R.Nodup:=h.imp fun h e=>by omega
abbrev fnvC(cs:List PV)(k0:Nat):PV:=.fn (.func 228) [] [.ip cs,.bp (k0+1) 0,.bp k0 0,.bp (k0+2) 0]
def ChoP(nt:Nt)(zp:Z)(l:List Sn)(id k0 m:Nat):Prop :=
 ∀(i:Nat) (R:List Nat) (r:List Int) (z:Bool) (low low' B0:List Box) (K:Nat) (b:Bool),i<=l.length->R.Pairwise (·<·)->(∀x∈R,x<i)->r.take R.length=bH R->R.length<=r.length->r.length<=100000->R.length+m<=1000->(z=true->r=[])->(m=0->1<=r.length) ->
  low.length=k0->k0+(4+B0.length)=K->OwnOk 0 low->(∀x∈B0,x.Lt K)->FoldR (YR prog id) (resH (up l R m i)) low b low' ->
  ∃v' z' r',(b=true->v'=.pf (k0+3) R.length r'.length∧r'.take R.length=r.take R.length∧r.length<=r'.length∧r'.length<=100000∧(z'=true->r'=[])∧(1<=m->i+m<=l.length->1<=r'.length))∧Pv.Lt (k0+4) v' ∧
   ab prog 228 [ii i,ii m,.ip (plC nt zp l),.bp (k0+1) 0,.bp k0 0,.bp (k0+2) 0] (stk id (fnvC (plC nt zp l) k0) B0 low (.pf (k0+3) R.length r.length) z (r.map ii) []) (.ret (.bool b))
    (stk id (fnvC (plC nt zp l) k0) B0 low' v' z' (r'.map ii) [])
theorem pQ(nt:Nt)(zp:Z)(l:List Sn)(k0 n:Nat)(hn:k0+4<=n):Pv.Lt n (fnvC (plC nt zp l) k0):=by
 refine .fn (fun c hc=>by cases hc) fun c hc=>?_
 simp only[D6,Eb,EM]at hc;rcases hc with rfl|rfl|rfl|rfl
 ·exact(av _ (show(PV.ip _).closed=true from dY nt zp l)).mono (Ee _)
 ·exact .bp (by omega)
 ·exact .bp (by omega)
 ·exact .bp (by omega)
theorem cho_zero(nt:Nt)(zp:Z)(l:List Sn)(hz:zp=.n->l=[])(hlf:l.map nof=l)(hll:l.length<=1000)(id k0:Nat)(hid:id<k0):ChoP nt zp l id k0 0:=by
 intro i R r z low low' B0 K b hi hR hRi htk hrl hrb hRm hzr hm hk hK h0 hB hfold;have hr1:=hm rfl;have hz0:z=false:=by
  cases z with
  |false=>rfl
  |true=>rw[hzr rfl]at hr1;simp at hr1
 subst hz0;refine⟨_,false,r,fun _=>⟨rfl,rfl,DS _,hrb,(fun h=>by cases h),fun h=>by omega⟩,.pf (by omega),?_⟩
 rw[yT]at hfold;cases hch:chB l 0 R with
 |false =>
  rw[D5 (by rw[hch];simp)]at hfold
  have hb':b=true∧low'=low:=by
   cases hfold;exact⟨rfl,rfl⟩
  obtain⟨rfl,rfl⟩:=hb';exact cho_no nt zp l hz hlf hll id k0 i _ R r low' (iO hR) (by omega) htk hrl hch hk h0 B0 K hK hB (pQ nt zp l k0 _ (by omega)) hid
 |true =>
  rw[DZ hch]at hfold;have hY:YR prog id [slC R] low b low':=by
   cases hfold with
   |stop h=>exact h
   |next h k=>cases k;exact h
  exact cho_yes nt zp l hz hlf hll id k0 i _ R r low low' b (iO hR) (by omega) htk hrl hch hk h0 B0 K hK hB (pQ nt zp l k0 _ (by omega)) hid hY
theorem cho_step(nt:Nt)(zp:Z)(l:List Sn)(hz:zp=.n->l=[])(hlf:l.map nof=l)(hll:l.length<=1000)(id k0:Nat)(hid:id<k0)(m:Nat)(IH:ChoP nt zp l id k0 m):ChoP nt zp l id k0 (m+1):=by
 intro i0 R r z low low' B0 K b hi0 hR hRi htk hrl hrb hRm hzr hm hk hK h0 hB hfold;unfold ChoP at IH;have hfn:∀n,k0+4<=n->Pv.Lt n (fnvC (plC nt zp l) k0):=fun n hn=>pQ nt zp l k0 n hn
 have hfd:fnvC (plC nt zp l) k0=.fn (.func 228) [] [.ip (plC nt zp l),.bp (k0+1) 0,.bp k0 0,.bp (k0+2) 0]:=rfl;generalize fnvC (plC nt zp l) k0=fnv at IH hfn hfd ⊢;obtain⟨hl',h0'⟩:=dV hfold h0;have hk':low'.length=k0:=by omega
 obtain⟨d,hd⟩:∃d,d=R.length:=⟨_,rfl⟩;rw[←hd]at htk hrl hRm ⊢
 suffices hw:∃x:PV×Bool×List Int,((b=true->x.1=.pf (k0+3) d x.2.2.length∧x.2.2.take d=r.take d∧r.length<=x.2.2.length∧x.2.2.length<=100000∧(x.2.1=true->x.2.2=[])∧(1<=m+1->i0+(m+1)<=l.length->1<=x.2.2.length))∧Pv.Lt (k0+4) x.1) ∧
  ab prog 228 [ii i0,ii (m+1:Nat),.ip (plC nt zp l),.bp (k0+1) 0,.bp k0 0,.bp (k0+2) 0] (stk id fnv B0 low (.pf (k0+3) d r.length) z (r.map ii) []) (.ret (.bool b)) (stk id fnv B0 low' x.1 x.2.1 (x.2.2.map ii) [])by
  obtain⟨⟨v',z',l'⟩,⟨w1,w2⟩,w3⟩:=hw;exact⟨v',z',l',w1,w2,w3⟩
 refine ab.ofE hTT (fun x:PV×Bool×List Int=>stk id fnv B0 low' x.1 x.2.1 (x.2.2.map ii) []) _ func228 rfl rfl ?_ (fun x _=>by rw[mM hk hK,mM hk' hK]) (fun x hx=>by rw[mM hk hK];exact jM hk' hK h0' hid (hx.2.mono (by simp;omega)) (hfn K (by omega)) (ac _) hB (fun x hx=>by cases hx)) .bool
 have hm1:(((m+1:Nat):Int)==0)=false:=by simp;omega
 repeat with_reducible first|refine nz aa ?_|apply ny;simp only[f228,hm1,go_sem];rfl
 refine am.keep [9,8,1,2,3,4,5] (by simp only[go_sem];rfl) ?_
 obtain⟨I,hI⟩:∃I:Nat->St->Prop,I=(fun j s'=>∃(lw:List Box) (r1:List Int) (z1:Bool),lw.length=k0∧OwnOk 0 lw∧SameLoops (stk id fnv B0 low (.pf (k0+3) d r.length) z (r.map ii) []) (stk id fnv B0 lw (.pf (k0+3) d r1.length) z1 (r1.map ii) [])∧r1.take d=bH R∧r.length<=r1.length∧r1.length<=100000∧(z1=true->r1=[])∧(1<=j->1<=r1.length) ∧
  FoldR (YR prog id) (resH (up l R (m+1) (i0+j))) lw b low' ∧
  s'=⟨[(9,ii (i0+j:Nat)),(8,.bool false),(1,ii (m+1:Nat)),(2,.ip (plC nt zp l)),(3,.bp (k0+1) 0),(4,.bp k0 0),(5,.bp (k0+2) 0)],48,stk id fnv B0 lw (.pf (k0+3) d r1.length) z1 (r1.map ii) []⟩):=⟨_,rfl⟩
 refine am.loop I (l.length-m-i0) (by rw[hI];exact⟨low,r,z,hk,h0,SameLoops.refl _,htk,DS _,hrb,hzr,(fun h=>by omega),hfold,rfl⟩) ?_
 clear hfold;intro j s hj hs;rw[hI]at hs;obtain⟨lw,r1,z1,hlw,hlw0,hsl,hr1,hrl1,hrb1,hz1,hj1,hfold,rfl⟩:=hs;obtain⟨a,ha⟩:∃a,a=i0+j:=⟨_,rfl⟩;rw[←ha]at hfold;have ha':((i0+j:Nat):Int)=(a:Int):=by rw[ha]
 rw[show ii ((i0+j:Nat):Int)=ii (a:Int)by rw[ha']]
 have hdl1:d<=r1.length:=by omega
 have g0:=stk0 (id:=id) (fnv:=fnv) (B0:=B0) hlw;have g1:=stk1 (id:=id) (fnv:=fnv) (B0:=B0) hlw;have g2:=stk2 (id:=id) (fnv:=fnv) (B0:=B0) hlw;have g2v:∀v z es C,(stk id fnv B0 lw v z es C)[k0+2]?=some (.var [.fn (.func 228) [] [.ip (plC nt zp l),.bp (k0+1) 0,.bp k0 0,.bp (k0+2) 0]] false):=fun v z es C=>(g2 v z es C).trans (by rw[hfd])
 have g3:=stk3 (id:=id) (fnv:=fnv) (B0:=B0) hlw;have s1:=Am (id:=id) (fnv:=fnv) (B0:=B0) hlw;have s3:=stkS3 (id:=id) (fnv:=fnv) (B0:=B0) hlw;have gL:=mM (id:=id) (fnv:=fnv) (B0:=B0) hlw hK;have gG0:=yu (id:=id) (fnv:=fnv) (B0:=B0) hlw hK;have gA:=lH id fnv B0 lw;have e1:IntKind.i64.wrap ((a:Int)+((m+1:Nat):Int))=((a+(m+1):Nat):Int):=by
  rw[show((a:Int)+((m+1:Nat):Int))=((a+(m+1):Nat):Int)by omega]
  exact ai (by omega) (by omega)
 by_cases hlt:j<l.length-m-i0
 ·have hlt':((a+(m+1):Nat):Int)<=(l.length:Int):=by omega
  have e2:=wIs a (by omega)
  have e3:IntKind.i64.wrap (((m+1:Nat):Int)-1)=(m:Int):=by
   rw[show((m+1:Nat):Int)-1=(m:Int)by omega]
   exact ai (by omega) (by omega)
  rw[xV (by omega),uK]at hfold
  have happ:∀C fid,ed TT (stk id fnv B0 lw (.pf (k0+3) d r1.length) z1 (r1.map ii) C) fid 26 (.pf (k0+3) d r1.length) (.sl .f [ii (a:Nat)])=some (.pf (k0+3) (d+1) (pt r1 d a).length,some (k0+3,.row false 3 1 ((pt r1 d a).map ii) false)):=fun C fid=>app_pf (g3 _ _ _ _) hdl1 hz1 hrb1
  have hpt:=qF (l:=r1) (d:=d) (i:=(a:Int)) hdl1;have hpn:=uD (l:=r1) (d:=d) (i:=(a:Int)) hdl1;have hpg:=putL_ge (l:=r1) (d:=d) (i:=(a:Int));rw[hr1,←ui]at hpt;generalize pt r1 d a=r2 at happ hpt hpn hpg;have happ2:=happ [] 0;simp only[g3,go_sem,DX]at happ2;repeat with_reducible first|(fail_if_success refine am.seq (x:=.region 7 _ _) ?_);(fail_if_success show am _ (.region 7 _ _) _ _);refine nz aa ?_|apply ny;simp only[f228,happ2,e1,hlt',g0,g1,g2,g3,s1,s3,gL,gA,gG0,go_sem];rfl
  have hRa:(R++[a]).length=d+1:=by simp[hd]
  have rcall:∀(b1:Bool) (lwx:List Box),FoldR (YR prog id) (resH (up l (R++[a]) m (a+1))) lw b1 lwx->∃v' z' r',(b1=true->v'=.pf (k0+3) (d+1) r'.length∧r'.take (d+1)=r2.take (d+1)∧r2.length<=r'.length∧r'.length<=100000∧(z'=true->r'=[]))∧Pv.Lt (k0+4) v' ∧
   ab prog 228 [ii (a+1:Nat),ii m,.ip (plC nt zp l),.bp (k0+1) 0,.bp k0 0,.bp (k0+2) 0] (stk id fnv B0 lw (.pf (k0+3) (d+1) r2.length) false (r2.map ii) [.dead]) (.ret (.bool b1)) (stk id fnv B0 lwx v' z' (r'.map ii) [.dead]) ∧
   SameLoops (stk id fnv B0 lw (.pf (k0+3) (d+1) r2.length) false (r2.map ii) [.dead]) (stk id fnv B0 lwx v' z' (r'.map ii) [.dead]):=by
   intro b1 lwx hf1;obtain⟨v',z',r',w1,w2,w3⟩:=IH (a+1) (R++[a]) r2 false lw lwx (B0++[.dead]) (K+1) b1 (by omega) (IM.2 ⟨hR,IP ..,fun x hx y hy=>by
    simp only[Ed]at hy;have:=hRi x hx
    omega⟩) (fun x hx=>by
    rcases Ez.1 hx with hx|hx
    ·have:=hRi x hx;omega
    ·simp only[Ed]at hx;omega) (by rw[hRa];exact hpt) (by rw[hRa];omega) (by omega) (by rw[hRa];omega) (fun h=>by cases h) (fun _=>by omega) hlw (by simp;omega) hlw0 (fun x hx=>by
    rcases Ez.1 hx with hx|hx
    ·exact(hB x hx).mono (by omega)
    ·simp only[Ed]at hx;subst hx;exact trivial) hf1
   rw[hRa]at w1 w3;rw[←stkB,←stkB,Er]at w3;exact⟨v',z',r',fun hb=>⟨(w1 hb).1,(w1 hb).2.1,(w1 hb).2.2.1,(w1 hb).2.2.2.1,(w1 hb).2.2.2.2.1⟩,w2,w3,gd (YR.ok _ _) hf1 hlw hK hid (.pf (by omega)) (hfn K (by omega)) (ac _) hB rfl rfl⟩
  rcases FoldR.split hfold with ⟨rfl,hf1⟩|⟨lw1,hf1,hf2⟩
  ·obtain⟨v',z',r',w1,w2,w3,w4⟩:=rcall false low' hf1
   repeat with_reducible first|refine nz (ar aa (ent func228 rfl) w3 w4) ?_|apply ny;simp only[f228,cp,g2v,e2,e3,go_sem];rfl
   refine⟨rfl,?_,rfl,(v',z',r'),[.dead],⟨(fun h=>by cases h),w2⟩,by rw[lH];rfl⟩
   exact hsl.trans (gd (YR.ok _ _) hf1 hlw hK hid (.pf (by omega)) (hfn K (by omega)) (ac _) hB rfl rfl)
  ·obtain⟨hlw1,hlw10⟩:=dV hf1 hlw0
   have hk1:lw1.length=k0:=by omega
   obtain⟨v',z',r',w1,w2,w3,w4⟩:=rcall true lw1 hf1;obtain⟨rfl,w5,w6,w7,w8⟩:=w1 rfl;have hz':z'=false:=by
    cases z' with
    |false=>rfl
    |true=>rw[w8 rfl]at w6;simp at w6;rw[w6]at hpn;simp at hpn
   subst hz';have e6:IntKind.i64.wrap (((d+1:Nat):Int)-1)=(d:Int):=by
    rw[show((d+1:Nat):Int)-1=(d:Int)by omega]
    exact ai (by omega) (by omega)
   have q0:(0:Int)<=(d:Int):=by omega
   have q1:(d:Int)<=((d+1:Nat):Int):=by omega
   have g1':=stk1 (id:=id) (fnv:=fnv) (B0:=B0) hk1;have g3':=stk3 (id:=id) (fnv:=fnv) (B0:=B0) hk1;have s1':=Am (id:=id) (fnv:=fnv) (B0:=B0) hk1;have gL':=mM (id:=id) (fnv:=fnv) (B0:=B0) hk1 hK;repeat with_reducible first|refine nz (ar aa (ent func228 rfl) w3 w4) ?_|apply ny;simp only[f228,cp,g2v,e2,e3,g1',g3',s1',e6,q0,q1,go_sem];rfl
   have w9:r'.take d=bH R:=by
    have h1:=congrArg (List.take d) w5;rw[hpt,List.take_take,F4 (by omega)]at h1
    rw[h1,ui,FU (by rw[uJ,hd])]
   refine ak.cutS [9,8,1,2,3,4,5] (stk id fnv B0 lw1 (.pf (k0+3) d r'.length) false (r'.map ii) []) [.dead] hlt (by rw[lH];rfl) (by simp only[gL,gL',DS,ET,go_sem]) (by simp only[go_sem];rfl) ?_ ?_ rfl (by
    rw[hI];refine⟨lw1,r',false,hk1,hlw10,hsl.trans (gd (YR.ok _ _) hf1 hlw hK hid (.pf (by omega)) (hfn K (by omega)) (ac _) hB rfl rfl),w9,by omega,w7,(fun h=>by cases h),fun _=>by omega,?_,?_⟩
    ·rw[show i0+(j+1)=a+1 by omega];exact hf2
    ·rw[show i0+(j+1)=a+1 by omega])
   ·rw[gL']
    intro p hp;simp only[D6,Eb,EM]at hp;rcases hp with rfl|rfl|rfl|rfl|rfl|rfl|rfl
    ·exact .int
    ·exact .bool
    ·exact .int
    ·exact(av _ (show(PV.ip _).closed=true from dY nt zp l)).mono (Ee _)
    ·exact .bp (by simp;omega)
    ·exact .bp (by simp;omega)
    ·exact .bp (by simp;omega)
   ·rw[gL']
    exact jM hk1 hK hlw10 hid (.pf (by simp;omega)) (hfn K (by omega)) (ac _) hB (fun x hx=>by cases hx)
 ·have hlt':¬((a+(m+1):Nat):Int)<=(l.length:Int):=by omega
  rw[choR_few (by omega) (by omega)]at hfold
  have hb':b=true∧low'=lw:=by
   cases hfold;exact⟨rfl,rfl⟩
  obtain⟨rfl,rfl⟩:=hb';repeat with_reducible first|refine nz aa ?_|apply ny;simp only[f228,e1,hlt',go_sem];rfl
  exact⟨rfl,hsl,rfl,(.pf (k0+3) d r1.length,z1,r1),[],⟨fun _=>⟨rfl,by rw[hr1,htk],hrl1,hrb1,hz1,fun _ _=>hj1 (by omega)⟩,.pf (by omega)⟩,by simp⟩
theorem xk(nt:Nt)(zp:Z)(l:List Sn)(hz:zp=.n->l=[])(hlf:l.map nof=l)(hll:l.length<=1000)(id k0:Nat)(hid:id<k0):∀m,ChoP nt zp l id k0 m
 |0=>cho_zero nt zp l hz hlf hll id k0 hid
 |m+1=>cho_step nt zp l hz hlf hll id k0 hid m (xk nt zp l hz hlf hll id k0 hid m)
def choH(l:List Sn)(k:Nat):List (List Nat):=((List.range k).reverse).flatMap fun k=>(c7 l.length k 0).filter (chB l 0)
theorem xq(l:List Sn)(k:Nat):choH l (k+1)=up l [] k 0++choH l k:=by
 unfold choH;rw[IU,List.reverse_append,List.reverse_cons,List.reverse_nil,EA,List.singleton_append,E2]
 congr 1
 unfold up;rw[show(fun x:List Nat=>[]++x)=id from rfl,List.map_id]
theorem sZ(nt:Nt)(zp:Z)(l:List Sn)(hz:zp=.n->l=[])(hlf:l.map nof=l)(hll:l.length<=900)(hl1:1<=l.length):uN prog 227 (fun id=>[.yl id,.ip (plC nt zp l)]) (resH (nO l)):=by
 intro id low b low' h0 hid h;obtain⟨hl',h0'⟩:=dV h h0;have hsl2:SameLoops low low':=by
  have:=iB (own:=[]) h (fun x hx=>by cases hx)
  simpa using this
 refine⟨.tuple [],?_,hsl2⟩;have hB:∀x∈([]:List Box),x.Lt (low.length+4):=fun x hx=>by cases hx
 have IH:=xk nt zp l hz hlf (by omega) id low.length hid
 unfold ChoP at IH;have hfn:=pQ nt zp l low.length (low.length+4) (DS _);have hfd:fnvC (plC nt zp l) low.length=.fn (.func 228) [] [.ip (plC nt zp l),.bp (low.length+1) 0,.bp low.length 0,.bp (low.length+2) 0]:=rfl;generalize fnvC (plC nt zp l) low.length=fnv at IH hfn hfd;obtain⟨k0,hk0⟩:∃k0,k0=low.length:=⟨_,rfl⟩;have hk:low.length=k0:=hk0.symm;rw[hk]at IH hfn hfd hB hid;have hK:k0+(4+([]:List Box).length)=k0+4:=rfl;refine ab.ofB hTT func227 rfl rfl ?_ hl' (fun x hx=>by have:=h0' x hx;rw[hl']at this;simpa using this) (.tuple (fun c hc=>by cases hc))
 have g0:∀B:List Box,(low++B)[k0]?=B[0]?:=fun B=>by rw[hk0];exact dS low B
 have g1:∀(B:List Box) (n:Nat),(low++B)[k0+n]?=B[n]?:=fun B n=>by rw[hk0];exact dO low B n
 have s0:∀(B:List Box) (x:Box),(low++B).set k0 x=low++B.set 0 x:=fun B x=>by rw[hk0];exact gq low B x
 have s1:∀(B:List Box) (n:Nat) (x:Box),(low++B).set (k0+n) x=low++B.set n x:=fun B n x=>by rw[hk0];exact d8 low B n x
 repeat with_reducible first|(fail_if_success refine am.seq (x:=.region 4 _ _) ?_);(fail_if_success show am _ (.region 4 _ _) _ _);refine nz aa ?_|apply ny;simp only[f227,hk,g0,g1,s0,s1,bl,go_sem];rfl
 refine am.pfVar (k0+1) 0 3 1 (by rw[g1];rfl) rfl (sg':=stk id fnv [] low (.pf (k0+3) 0 0) true [] []) (by
  rw[s1,Et,hfd];simp only[Ea,hk]
  rfl) ?_
 repeat with_reducible first|refine nz aa ?_|apply ny;simp only[f227,go_sem];rfl
 refine am.keep [5,4,3,2,1] (by simp only[go_sem];rfl) ?_
 obtain⟨I,hI⟩:∃I:Nat->St->Prop,I=(fun j s'=>∃(lw:List Box) (r1:List Int) (z1:Bool),lw.length=k0∧OwnOk 0 lw∧SameLoops (stk id fnv [] low (.pf (k0+3) 0 0) true [] []) (stk id fnv [] lw (.pf (k0+3) 0 r1.length) z1 (r1.map ii) [])∧r1.length<=100000∧(z1=true->r1=[])∧(1<=j->1<=r1.length) ∧
  FoldR (YR prog id) (resH (choH l (l.length+1-j))) lw b low' ∧
  s'=⟨[(5,ii ((l.length:Int)-j)),(4,.bp (k0+2) 0),(3,.bp (k0+1) 0),(2,.bp k0 0),(1,.ip (plC nt zp l))],18,stk id fnv [] lw (.pf (k0+3) 0 r1.length) z1 (r1.map ii) []⟩):=⟨_,rfl⟩
 refine am.loop I (l.length+1) (by
  rw[hI];refine⟨low,[],true,hk,h0,SameLoops.refl _,by simp,fun _=>rfl,(fun h=>by omega),h,?_⟩
  rw[show((l.length:Int)-((0:Nat):Int))=(l.length:Int)by omega]
  first|(simp only[go_sem];first|done|rfl)|rfl) ?_
 clear h;intro j s hj hs;rw[hI]at hs;obtain⟨lw,r1,z1,hlw,hlw0,hsl,hrb1,hz1,hj1,hfold,rfl⟩:=hs;have g2:=stk2 (id:=id) (fnv:=fnv) (B0:=[]) hlw;have g2v:∀v z es C,(stk id fnv [] lw v z es C)[k0+2]?=some (.var [.fn (.func 228) [] [.ip (plC nt zp l),.bp (k0+1) 0,.bp k0 0,.bp (k0+2) 0]] false):=fun v z es C=>(g2 v z es C).trans (by rw[hfd])
 by_cases hlt:j<l.length+1
 ·obtain⟨m,hm⟩:∃m,l.length=m+j:=⟨l.length-j,by omega⟩
  have hmj:((l.length:Int)-(j:Int))=(m:Int):=by omega
  have hge:((m:Int)≥0)=True:=by simp
  have hge2:((0:Int)<=(m:Int))=True:=by simp
  have e3:IntKind.i64.wrap ((m:Int)-1)=(l.length:Int)-((j+1:Nat):Int):=by
   rw[show(l.length:Int)-((j+1:Nat):Int)=(m:Int)-1 by omega]
   exact ai (by omega) (by omega)
  rw[hmj];rw[show l.length+1-j=m+1 by omega,xq,uK]at hfold
  have rcall:∀(b1:Bool) (lwx:List Box),FoldR (YR prog id) (resH (up l [] m 0)) lw b1 lwx->∃v' z' r',(b1=true->v'=.pf (k0+3) 0 r'.length∧r1.length<=r'.length∧r'.length<=100000∧(z'=true->r'=[])∧(1<=m->0+m<=l.length->1<=r'.length))∧Pv.Lt (k0+4) v' ∧
   ab prog 228 [ii (0:Int),ii m,.ip (plC nt zp l),.bp (k0+1) 0,.bp k0 0,.bp (k0+2) 0] (stk id fnv [] lw (.pf (k0+3) 0 r1.length) z1 (r1.map ii) []) (.ret (.bool b1)) (stk id fnv [] lwx v' z' (r'.map ii) []) ∧
   SameLoops (stk id fnv [] lw (.pf (k0+3) 0 r1.length) z1 (r1.map ii) []) (stk id fnv [] lwx v' z' (r'.map ii) []):=by
   intro b1 lwx hf1;obtain⟨v',z',r',w1,w2,w3⟩:=IH m 0 [] r1 z1 lw lwx [] (k0+4) b1 (by omega) List.Pairwise.nil (fun x hx=>by cases hx) rfl (by simp) hrb1 (by simp;omega) hz1 (fun hm0=>hj1 (by omega)) hlw rfl hlw0 hB hf1
   exact⟨v',z',r',fun hb=>⟨(w1 hb).1,(w1 hb).2.2.1,(w1 hb).2.2.2.1,(w1 hb).2.2.2.2.1,(w1 hb).2.2.2.2.2⟩,w2,w3,gd (YR.ok _ _) hf1 hlw hK hid (.pf (by omega)) hfn (ac _) hB rfl rfl⟩
  rcases FoldR.split hfold with ⟨rfl,hf1⟩|⟨lw1,hf1,hf2⟩
  ·obtain⟨v',z',r',w1,w2,w3,w4⟩:=rcall false low' hf1
   repeat with_reducible first|refine nz (ar aa (ent func228 rfl) w3 w4) ?_|apply ny;simp only[f227,cp,g2v,hge,hge2,go_sem];rfl
   refine⟨rfl,?_,rfl,[.var [.yl id] false,.var [v'] false,.var [fnv] false,.row z' 3 1 (r'.map ii) false],rfl⟩;exact SameLoops.app [.var [.yl id] false,.var [v'] false,.var [fnv] false,.row z' 3 1 (r'.map ii) false] rfl hsl2
  ·obtain⟨hlw1,hlw10⟩:=dV hf1 hlw0
   have hk1:lw1.length=k0:=by omega
   obtain⟨v',z',r',w1,w2,w3,w4⟩:=rcall true lw1 hf1;obtain⟨rfl,w5,w6,w7,w8⟩:=w1 rfl;have gL:=mM (id:=id) (fnv:=fnv) (B0:=[]) hlw hK;have gL':=mM (id:=id) (fnv:=fnv) (B0:=[]) hk1 hK;repeat with_reducible first|refine nz (ar aa (ent func228 rfl) w3 w4) ?_|apply ny;simp only[f227,cp,g2v,hge,hge2,e3,go_sem];rfl
   refine ak.cutS [5,4,3,2,1] (stk id fnv [] lw1 (.pf (k0+3) 0 r'.length) z' (r'.map ii) []) [] hlt (by rw[lH];rfl) (by simp only[gL,gL',DS,ET,go_sem]) (by simp only[go_sem];rfl) ?_ ?_ rfl (by
    rw[hI];refine⟨lw1,r',z',hk1,hlw10,hsl.trans (gd (YR.ok _ _) hf1 hlw hK hid (.pf (by omega)) hfn (ac _) hB rfl rfl),w6,w7,fun _=>?_,?_,rfl⟩
    ·by_cases hj0:j=0
     ·exact w8 (by omega) (by omega)
     ·have:=hj1 (by omega);omega
    ·rw[show l.length+1-(j+1)=m by omega];exact hf2)
   ·rw[gL']
    intro p hp;simp only[D6,Eb,EM]at hp;rcases hp with rfl|rfl|rfl|rfl|rfl
    ·exact .int
    ·exact .bp (by simp)
    ·exact .bp (by simp)
    ·exact .bp (by simp)
    ·exact(av _ (show(PV.ip _).closed=true from dY nt zp l)).mono (Ee _)
   ·rw[gL']
    exact jM hk1 hK hlw10 hid (.pf (by simp)) hfn (ac _) hB (fun x hx=>by cases hx)
 ·obtain rfl:j=l.length+1:=by omega
  have hmj:((l.length:Int)-((l.length+1:Nat):Int)) = -1:=by omega
  have hge:((-1:Int)≥0)=False:=by simp
  rw[hmj];rw[show l.length+1-(l.length+1)=0 by omega]at hfold
  have hb':b=true∧low'=lw:=by
   cases hfold;exact⟨rfl,rfl⟩
  obtain⟨rfl,rfl⟩:=hb';repeat with_reducible first|refine nz aa ?_|apply ny;simp only[f227,hge,go_sem];rfl
  refine⟨rfl,?_,rfl,[.var [.yl id] false,.var [.pf (k0+3) 0 r1.length] false,.var [fnv] false,.row z1 3 1 (r1.map ii) false],rfl⟩;exact SameLoops.app [.var [.yl id] false,.var [.pf (k0+3) 0 r1.length] false,.var [fnv] false,.row z1 3 1 (r1.map ii) false] rfl hsl2
theorem tI(cs:List PV)(hc:ad cs=true):ab prog 181 [.agg cs] [] (.ret (.fn (.func 227) [] [.ip cs])) []:=by
 refine ab.ofF hTT func181 rfl rfl ?_;repeat with_reducible first|refine nz aa ?_|apply ny;simp only[f181,bl,go_sem];rfl
 exact⟨rfl,rfl,_,rfl,xZ _ _ hc⟩
def c181:Tb_
 |[.agg cs],sg=>if ad cs=true then some (.ret (.fn (.func 227) [] [.ip cs]),sg)else none
 |_,_=>none
theorem c181_ok:al prog 181 c181:=al.of0 (ent func181 rfl) fun args sg r sg' h=>by
 unfold c181 at h;split at h <;> try (cases h;done)
 split at h <;> cases h
 rename_i hc;exact⟨_,rfl,rfl,by rw[af,sP,ae 0 _ hc];rfl,tI _ hc⟩
end Go.Pv
