import Derived.Test.YtkahmnpcfghpiaaGreatQzVer
import Derived.Test.YtkahmnpcfghpiaaGreatQfTry
set_option linter.all false
open Go.Proofs.Tryz
namespace Go.Pv
open Go Go.RowKit Go.Proofs
set_option maxRecDepth 200000
set_option maxHeartbeats 8000000
theorem Bk.ver{b:Bk}(h:bkB b=true){v:Ve}(hv:v∈b.vs):mv b.cues b.tunes v.sts=true:=by
 unfold bkB at h;rw[D3,D7]at h;exact h.2 v hv
theorem Bk.num{b:Bk}(h:bkB b=true):(1<=b.cues∧b.cues<=4)∧1<=b.vs.length∧b.vs.length<=4:=by
 unfold bkB at h;rw[D3,D3,D3]at h;have h1:=bm.1 h.1.1.1;have h2:=bm.1 h.1.2;omega
def ev0:PV:=.agg [.sl .n [],.sl .n []]
def f9(n:Nat):List Int:=(List.range n).map fun i:Nat=>(i:Int)
theorem KF(n:Nat):f9 (n+1)=f9 n++[(n:Int)]:=by unfold f9;rw[List.range_succ,Ec];rfl
theorem q4(n:Nat):(f9 n).length=n:=by unfold f9;rw[DX,List.length_range]
theorem Ko(b:Bk)(hok:b.ok=true)(hb:bkB b=true):ab prog 163 [.agg b.cells,.sl .a [ev0]] [] (.ret (.sl .a ((f9 b.vs.length).map ii))) []:=by
 refine ab.ofF hTT func163 rfl rfl ?_;have hbn:=Bk.num hb;have hc:=bh b.vs;have n0:f9 0=[]:=rfl;have hev:ev0=.agg [.sl .n [],.sl .n []]:=rfl;rw[hev];repeat with_reducible first|refine nz aa ?_|apply ny;simp only[f163,go_sem];rfl
 refine am.scope ?_;repeat with_reducible first|refine nz aa ?_|apply ny;simp only[f163,go_sem];rfl
 refine am.keep [15,14,13,5,2,1] (by simp only[go_sem];rfl) ?_
 refine am.nilRow 5 3 1 (by simp only[go_sem]) (by simp only[go_sem];rfl) (by simp only[go_sem];rfl) ?_
 refine am.loop (fun i s'=>s'=⟨[(15,ii (i:Nat)),(14,ii (b.vs.length:Nat)),(13,.sl b.zv (b.vs.map d6)),(5,.ms 1 i),(2,.bp 0 0),(1,.sl .a [.agg [.sl .n [],.sl .n []]])],45,[.var b.cells false,.row (decide (i=0)) 3 1 ((f9 i).map ii) false]⟩) b.vs.length (by first|(simp only[n0,go_sem];first|done|rfl)|rfl) ?_
 rintro i _ hi rfl;by_cases hlt:i<b.vs.length
 ·obtain⟨v,hv⟩:=gex hlt
  have hv':(b.vs.map d6)[i]?=some (.agg [.sl v.1 (v.2.map b0)]):=aw hv;have hvm:=DU hv;have hlt':(i:Int)<b.vs.length:=by omega
  have hz':b.zv≠.n:=fun e=>by rw[bd (Bk.ok_v hok) e]at hlt;simp at hlt
  have e4:=wIs i (by omega)
  have hs:=Bk.ok_s hok hvm;have hcall:ab prog 56 [.agg [.sl v.1 (v.2.map b0)],.sl .n []] [] (.ret (.tuple [.sl .n [],.agg [.sl v.1 (v.2.map b0),ii 0]])) []:=zx v .n [] b.cues b.tunes hs.1 hs.2 (fun _=>rfl) (Bk.ver hb hvm) (fun x hx=>by cases hx) (by simp)
  have hbt:bD 0 [PV.agg [.sl v.1 (v.2.map b0)],.sl .n []]=true:=ae 0 _ (by simp[ad,PV.closed,cc])
  have hcv:=cc v.2;have u1:IntKind.i64.wrap 1=1:=rfl;have q1:(i+1)*8<=140737488355328:=by omega
  have q2:i+1<=maxLen:=by unfold maxLen;omega
  have hd1:decide (i+1=0)=false:=by simp
  have hsn:=KF i;have hnl:=q4 i;repeat with_reducible first|refine nz aa ?_|apply ny;simp only[f163,hv',hlt',hz',go_sem];rfl
  refine am.keep [22,21,20,6,7,15,14,13,5,2,1] (by simp only[go_sem];rfl) ?_
  refine am.loop (fun j s'=>s'=⟨[(22,ii (j:Nat)),(21,ii 1),(20,.sl .a [.agg [.sl .n [],.sl .n []]]),(6,ii (i:Nat)),(7,.bp 2 0),(15,ii (i:Nat)),(14,ii (b.vs.length:Nat)),(13,.sl b.zv (b.vs.map d6)),(5,.ms 1 i),(2,.bp 0 0),(1,.sl .a [.agg [.sl .n [],.sl .n []]])],45,[.var b.cells false,.row (decide (i=0)) 3 1 ((f9 i).map ii) false,.var [.sl v.1 (v.2.map b0)] false]⟩) 1 (by first|(simp only[go_sem];first|done|rfl)|rfl) ?_
  rintro j _ hj rfl;by_cases hj1:j<1
  ·obtain rfl:j=0:=by omega
   repeat with_reducible first|refine nz (aj (aj aa (ent func56 rfl) hcall hbt) (ent func207 rfl) noted_nn rfl) ?_|apply ny;simp only[f163,eA,hcv,go_sem];rfl
   refine ak.t 3 [22,21,20,6,7,15,14,13,5,2,1] (show 0<1 by decide) (by simp only[aF,n5,k5,go_sem]) (by first|(simp only[u1,go_sem];first|done|rfl)|rfl)
  ·obtain rfl:j=1:=by omega
   repeat with_reducible first|refine nz aa ?_|apply ny;simp only[f163,e4,q1,q2,hnl,go_sem];rfl
   refine ak.t 2 [15,14,13,5,2,1] hlt (by simp only[aF,k5,bJ,go_sem]) (by rw[hsn,hd1];simp only[Ec,go_sem])
 ·have hlt':¬(i:Int)<b.vs.length:=by omega
  obtain rfl:i=b.vs.length:=by omega
  have hd0:decide (b.vs.length=0)=false:=Ei (by omega)
  rw[hd0];repeat with_reducible first|refine nz aa ?_|apply ny;simp only[f163,hlt',go_sem];rfl
  exact⟨(fun l e=>by cases e),rfl,rfl,_,rfl,leave_row (id:=1) (z:=false) (frz:=false) rfl (ac _) (by rw[DX,q4])⟩
theorem some_111(b:Bk)(hok:b.ok=true)(hb:bkB b=true):ab prog 111 [.agg b.cells,.sl .a [ev0]] [] (.ret (.sl .a ((f9 b.vs.length).map ii))) []:=by
 refine ab.ofF hTT func111 rfl rfl ?_;have hbn:=Bk.num hb;have h:=Ko b hok hb;have hbt:bD 0 [PV.agg b.cells,.sl .a [ev0]]=true:=ae 0 _ (by simp[ad,PV.closed,bh,ev0])
 have hl:((f9 b.vs.length).map ii).length=b.vs.length:=by rw[DX,q4]
 have hn:((b.vs.length:Int)==0)=false:=by rw[EF];omega
 repeat with_reducible first|refine nz (aj aa (ent func163 rfl) h hbt) ?_|apply ny;simp only[f111,eA,hl,hn,go_sem];rfl
 exact⟨rfl,rfl,_,rfl,aq (ac _)⟩
theorem try109{g:FuncId}{fa cap:List PV}{sg sg2:List Box}{v c:PV}(he:bC prog g)(hc:ab prog g (fa++([]++cap)) (sg++[.var [ii 0] false]) (.ret v) sg2)(hsl:SameLoops (sg++[.var [ii 0] false]) sg2)
 (hb:sg2[sg.length]?=some (.var [c] false)):ab prog 109 [.fn (.func g) fa cap] sg (.ret (ii 0)) (sg2.set sg.length (.var [ii 0] false)):=by
 have hsl0:SameLoops sg sg2:=by
  refine⟨fun id lr h=>hsl.1 id lr (by rw[DY (DR.1 h).1];exact h),fun id lr h=>?_⟩
  obtain⟨lr',h'⟩:=hsl.2 id lr h;by_cases hid:id<sg.length
  ·rw[DY hid]at h';exact⟨lr',h'⟩
  ·rw[D9 (by omega)]at h'
   have:=(DR.1 h').1
   simp at this;have e:id-sg.length=0:=by omega
   rw[e]at h';cases h'
 have hlt:sg.length<sg2.length:=(DR.1 hb).1;have hg0:(sg2.set sg.length (.var [ii 0] false))[sg.length]?=some (.var [ii 0] false):=D4 hlt;refine ab.deferring (st1:=⟨[(2,.bp sg.length 0),(0,.fn (.func g) fa cap)],6,sg++[.var [ii 0] false]⟩) (st2:=⟨[(5,v),(4,.fn (.func g) fa cap),(3,.fn (.func 162) [] [.bp sg.length 0]),(2,.bp sg.length 0),(0,.fn (.func g) fa cap)],6,sg2.set sg.length (.var [ii 0] false)⟩) (m:=.ret)
  (st3:=⟨[(1,.nili),(7,.bool true),(5,.nili),(0,.bp sg.length 0)],14,sg2.set sg.length (.var [ii 0] false)⟩) (idv:=sg.length) hTT func109 rfl func162 rfl rfl (by decide) (ent func162 rfl) ?_ rfl (Eu rfl) ?_ ?_ ?_ ?_ ?_
 ·exact dJ.regionL hTT (by first|(simp only[gI,iE,go_sem];first|done|rfl)|rfl)
 ·refine o6 ?_
  repeat with_reducible first|refine nz (ar aa he hc hsl) ?_|apply ny;simp only[f109,cp,hb,EA,go_sem];rfl
  exact⟨rfl,rfl⟩
 ·exact dJ.block (out:=.normal) (dJ.seq (st1:=⟨[(7,.bool true),(5,.nili),(0,.bp sg.length 0)],14,sg2.set sg.length (.var [ii 0] false)⟩) (dJ.regionL hTT rfl) (dJ.cond (b:=true) rfl (dJ.regionL hTT rfl)))
 ·simp only[f109,hg0,go_sem]
 ·refine⟨fun id lr h=>?_,fun id lr h=>?_⟩
  ·exact(fun ⟨lr',h'⟩=>⟨lr',(lO hb rfl rfl id lr').2 h'⟩) (hsl0.1 id lr h)
  ·exact hsl0.2 id lr ((lO hb rfl rfl id lr).1 h)
 ·show sg.length<(sg++[_]).length
  simp
theorem KQ:ab prog 112 [.sl .n []] [] (.ret (.sl .n [])) []:=by
 refine ab.of0 hTT func112 rfl rfl ?_;repeat with_reducible first|refine nz aa ?_|apply ny;simp only[f112,go_sem];rfl
 exact⟨rfl,rfl,_,rfl,rfl⟩
open Classical in
noncomputable def c111z(b:Bk):List PV->List Box->Option (PRes×List Box):=fun args sg=>if args=[.agg b.cells,.sl .a [ev0]]then some (.ret (.sl .a ((f9 b.vs.length).map ii)),sg)else none
theorem c111z_ok(b:Bk)(hok:b.ok=true)(hb:bkB b=true):al prog 111 (c111z b):=al.of0 (ent func111 rfl) fun args sg r sg' h=>by
 unfold c111z at h;split at h <;> cases h
 rename_i hc;subst hc;exact⟨_,rfl,rfl,ae 0 _ (by simp[ad,PV.closed,bh,ev0]),some_111 b hok hb⟩
theorem Kw{cs:List PV}{f:Bool}{m:Nat}(h:ad cs=true):(Box.var cs f).Lt m:=(Ho h).mono (Ee _)
def rg(b:Bk)(x:PV):List Box:=[.var b.cells false,.var [.sl .n []] false,.var [.sl .n [],.sl .n []] false,.var [x] false]
theorem Kp(b:Bk){x:PV}(hx:x.closed=true)(m:Nat):∀y∈rg b x,y.Lt m:=fun y hy=>by
 unfold rg at hy;simp only[D6,Eb,EM]at hy;rcases hy with rfl|rfl|rfl|rfl
 ·exact(Ho (oC b)).mono (Ee _)
 ·exact Kw rfl
 ·exact Kw rfl
 ·exact Kw (show(x.closed&&true)=true by rw[hx];rfl)
theorem K7(b:Bk)(hok:b.ok=true)(hb:bkB b=true):ab prog 110 [.bp 0 0,.bp 1 0,.bp 2 0,.bp 3 0] (rg b (.sl .n [])++[.var [ii 0] false]) (.ret (.tuple [])) (rg b (.sl .a ((f9 b.vs.length).map ii))++[.var [ii 0] false]):=by
 have hcl:=ac (f9 b.vs.length);refine ab.ofB hTT func110 rfl rfl ?_ rfl (fun x hx=>?_) (.tuple (fun c hc=>by cases hc))
 ·unfold rg
  have hcv:=bh b.vs;have hq:c111z b [PV.agg [ii b.cues,ii b.tunes,.sl b.zv (b.vs.map d6)],.sl .a [.agg [.sl .n [],.sl .n []]]] []=some (.ret (.sl .a ((f9 b.vs.length).map ii)),[]):=by
   show c111z b [.agg b.cells,.sl .a [ev0]] _=_;exact DZ rfl
  obtain⟨x,r,hxr⟩:∃x r,(f9 b.vs.length).map ii=x::r:=by
   cases hh:(f9 b.vs.length).map ii with
   |nil =>
    have h1:=congrArg List.length hh;rw[DX,q4]at h1;have h2:b.vs.length=0:=h1;have:=Bk.num hb
    omega
   |cons x r=>exact⟨x,r,rfl⟩
  rw[hxr]at hq hcl ⊢;repeat with_reducible first|refine nz (ah (aj aa (ent func112 rfl) KQ rfl) (c111z_ok b hok hb)) ?_|apply ny;simp only[f110,eA,hq,hcv,hcl,go_sem];rfl
  exact⟨rfl,aD _ _ rfl,rfl,[_,_,_],rfl⟩
 ·rcases Ez.1 hx with hx|hx
  ·exact Kp b (x:=.sl .a _) hcl _ x hx
  ·simp only[D6,Eb,EM]at hx
   subst hx;exact Kw rfl
theorem Km(b:Bk)(hok:b.ok=true)(f:Bool):ab prog 57 [.agg b.cells,.bool f,.sl .n [],ev0] [] (.ret (if(bkB b&&f)=true then .tuple [.sl .a ((f9 b.vs.length).map ii),ii 0]else .tuple [.sl .n [],ii 2])) []:=by
 refine ab.ofF hTT func57 rfl rfl ?_;have h53:=zt b hok;have hbt:bD 0 [PV.agg b.cells]=true:=ae 0 _ (by simp[ad,PV.closed,bh])
 have hev:ev0=.agg [.sl .n [],.sl .n []]:=rfl;have n00:((0:Int) != 0)=false:=rfl;rw[hev];cases hB:bkB b
 ·rw[hB]at h53
  rw[D5 (by simp)]
  repeat with_reducible first|refine nz (aj aa (ent func53 rfl) h53 hbt) ?_|apply ny;simp only[f57,eA,go_sem];rfl
  exact⟨rfl,rfl,_,rfl,aq rfl⟩
 ·rw[hB]at h53
  have hbn:=Bk.num hB;have h107:=KB b;have h108:=Lb b (by omega)
  have ht1:bD 0 [PV.agg b.cells,.sl .n []]=true:=ae 0 _ (by simp[ad,PV.closed,bh])
  have ht2:bD 0 [PV.agg b.cells,.agg [.sl .n [],.sl .n []]]=true:=ae 0 _ (by simp[ad,PV.closed,bh])
  have hcl:=ac (f9 b.vs.length);cases f
  ·rw[D5 (by simp)]
   repeat with_reducible first|refine nz (aj (aj (aj aa (ent func108 rfl) h108 ht2) (ent func107 rfl) h107 ht1) (ent func53 rfl) h53 hbt) ?_|apply ny;simp only[f57,eA,go_sem];rfl
   exact⟨rfl,rfl,_,rfl,aq rfl⟩
  ·rw[DZ (by simp)]
   have hsl:SameLoops (rg b (.sl .n [])++[.var [ii 0] false]) (rg b (.sl .a ((f9 b.vs.length).map ii))++[.var [ii 0] false]):=aD _ _ rfl;have h109:ab prog 109 [.fn (.func 110) [] [.bp 0 0,.bp 1 0,.bp 2 0,.bp 3 0]] (rg b (.sl .n [])) (.ret (ii 0)) (rg b (.sl .a ((f9 b.vs.length).map ii))) :=
    (try109 (fa:=[]) (cap:=[.bp 0 0,.bp 1 0,.bp 2 0,.bp 3 0]) (sg:=rg b (.sl .n [])) (ent func110 rfl) (K7 b hok hB) hsl rfl).cut (Kp b (x:=.sl .a _) hcl _) .int
   unfold rg at h109 hsl;have hsl2:SameLoops (rg b (.sl .n [])) (rg b (.sl .a ((f9 b.vs.length).map ii))):=aD _ _ rfl;unfold rg at hsl2;repeat with_reducible first|refine nz (aj (aj (aj (ar aa (ent func109 rfl) h109 hsl2) (ent func108 rfl) h108 ht2) (ent func107 rfl) h107 ht1) (ent func53 rfl) h53 hbt) ?_|apply ny;simp only[f57,eA,cp,n00,bl,go_sem];rfl
   exact⟨rfl,rfl,_,rfl,aq (v:=.tuple [.sl .a ((f9 b.vs.length).map ii),ii 0]) (by simp[PV.closed,ad,hcl])⟩
end Go.Pv
