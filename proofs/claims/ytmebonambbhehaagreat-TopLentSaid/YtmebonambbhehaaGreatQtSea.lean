import Derived.Test.YtmebonambbhehaaGreatQtLay
import Derived.Test.YtmebonambbhehaaGreatQgStory
import Derived.Test.YtmebonambbhehaaGreatQdMore
set_option linter.all false
open Go.Proofs.Tryz
namespace Go.Pv
open Go Go.RowKit Go.Proofs
set_option maxRecDepth 200000
set_option maxHeartbeats 8000000
theorem OG:ab prog 59 [.sl .n []] [] (.ret (.sl .n [])) []:=by
 refine ab.of0 hTT func59 rfl rfl ?_;repeat with_reducible first|refine nz aa ?_|apply ny;simp only[f59,go_sem];rfl
 exact⟨rfl,rfl,_,rfl,rfl⟩
def c59L:Tb_
 |[.sl .n []],sg=>some (.ret (.sl .n []),sg)
 |[.sl .a es],[]=>match dM ld es with
  |some l=>if l≠[]∧l.length<=100000 then some (.ret (.ms 0 l.length),[.row false 3 1 (l.map ii) false])else none
  |none=>none
 |_,_=>none
theorem c59L_ok:dU prog 59 c59L:=fun args sg r sg' h=>by
 unfold c59L at h;split at h
 ·cases h
  exact⟨ent func59 rfl,OG.frame (bw 0 _ rfl) _,SameLoops.refl _⟩
 ·split at h <;> try (cases h;done)
  rename_i hl;split at h <;> cases h
  rename_i hc;obtain rfl:=bv pw hl;exact⟨ent func59 rfl,K0 _ hc.1 hc.2,aD _ _ rfl⟩
 ·cases h
def cfLh:CallF:=aE cf0 59 (MZ c59L)
theorem Oq:CallFOk prog cfLh:=ah aa c59L_ok.row
def pkV(c:Ch)(p:List Int):PV:=.agg [ii c.room,ii c.depth,.sl c.zf (c.fs.map dr),pvN p]
def resP(c:Ch)(k:Nat)(now:List Int):List (List PV):=(MH c.room c.depth c.fs k now).map fun p=>[pkV c p]
structure ChOk(c:Ch):Prop where
 ok:c.ok=true
 len:c.fs.length<=1000
 rank:∀f∈c.fs,-1000<=f.rank∧f.rank<=1000
 size:∀f∈c.fs,0<=f.size∧f.size<=1000
 depth:0<=c.depth∧c.depth<=1000
theorem ChOk.of{c:Ch}(hok:c.ok=true)(h:chBL c=true):ChOk c:=by
 unfold chBL at h;rw[D3,D3,D3,D7]at h;obtain⟨⟨⟨h1,h2⟩,h3⟩,h4⟩:=h;have h2:=bm.1 h2;have h3:=Eu h3;have h5:∀f∈c.fs,(1<=f.size∧f.size<=9)∧1<=f.rank∧f.rank<=5:=fun f hf=>by
  have:=h4 f hf
  unfold fgB at this;rw[D3,D3]at this;exact⟨bm.1 this.1.1,bm.1 this.1.2⟩
 exact⟨hok,by omega,fun f hf=>by have:=h5 f hf;omega,fun f hf=>by have:=h5 f hf;omega,by omega⟩
theorem MP(id:Nat)(c:Ch)(hc:ChOk c)(now:List Int)(low own low':List Box)(b:Bool)(a a':Nat)(hn:now.length=c.fs.length)(hnb:∀x∈now,-1000<=x∧x<=1000)(h0:OwnOk 0 low)(ho:OwnOk low.length own)
 (hY:(low++own)[a]?=some (.var [.yl id] false)) (h:FoldR (YR prog id) (resP c 0 now) low b low') :
 ab prog 58 [pvN now,.ip c.cells,.bp a 0,.bp a' 0] (low++own) (.ret (.bool b)) (low'++own):=by
 obtain⟨hl',h0'⟩:=LC h h0;have hlt':=NF h0' (by rw[hl'];exact ho:OwnOk low'.length own)
 have hlen':(low'++own).length=(low++own).length:=by simp[hl']
 refine ab.ofB hTT func58 rfl rfl ?_ hlen' (by rw[←hlen'];exact hlt') .bool
 have hn':((now.length:Int)==(c.fs.length:Int))=true:=by simp[hn]
 have hcf:=cY c.fs;have hcn:=cV now;obtain⟨zn,hzn,hzk⟩:=LJ now;have hml:=hc.len;have h35:=Nw c zn now hc.ok hzk hn (by omega) hnb hc.rank hc.size hc.depth
 have hbt:bD 0 [PV.agg (pkC c zn now)]=true:=ae 0 _ (by simp[ad,PV.closed,cY,cV])
 have hpv:pkV c now=.agg (pkC c zn now):=by unfold pkV;rw[hzn]
 rw[hzn];have hml2:now.length<=maxLen:=by unfold maxLen;omega
 cases hr:rightB c.room c.depth c.fs now
 ·rw[hr]at h35
  have hres:resP c 0 now=[]:=by unfold resP;rw[MH,hr];rfl
  rw[hres]at h;have hbl:b=true∧low'=low:=by cases h;exact⟨rfl,rfl⟩
  obtain⟨rfl,rfl⟩:=hbl;generalize low'++own=S at *;obtain⟨k0,hk0⟩:∃k0,k0=S.length:=⟨_,rfl⟩;have hk:S.length=k0:=hk0.symm;have g0:∀B:List Box,(S++B)[k0]?=B[0]?:=fun B=>by rw[hk0];exact dS S B
  have s0:∀(B:List Box) (x:Box),(S++B).set k0 x=S++B.set 0 x:=fun B x=>by rw[hk0];exact gq S B x
  repeat with_reducible first|refine nz (aj aa (ent func35 rfl) h35 hbt) ?_|apply ny;simp only[f58,eA,hn',hk,g0,s0,hcf,hcn,go_sem];rfl
  exact⟨rfl,SameLoops.app [.var (pkC c zn now) false] rfl (SameLoops.refl _),rfl,[.var (pkC c zn now) false],rfl⟩
 ·rw[hr]at h35
  have hres:resP c 0 now=[[.agg (pkC c zn now)]]:=by unfold resP;rw[MH,hr,DZ rfl,EE,List.map_nil,hpv]
  rw[hres]at h;have h1:YR prog id [.agg (pkC c zn now)] low b low':=by
   cases h with
   |stop h=>exact h
   |next h k=>cases k;exact h
  have hown1:OwnOk low.length (own++[Box.var (pkC c zn now) false]):=fun x hx=>by
   rcases Ez.1 hx with hx|hx
   ·exact(ho x hx).mono (by simp)
   ·simp only[D6,Eb,EM]at hx
    subst hx;exact vLt (Oz c zn now)
  obtain⟨hy,hs⟩:=h1.2.2 _ hown1;rw[←Et,←Et]at hy hs;generalize low++own=S at *;generalize low'++own=S' at *;obtain⟨k0,hk0⟩:∃k0,k0=S.length:=⟨_,rfl⟩;have hk:S.length=k0:=hk0.symm;have g0:∀B:List Box,(S++B)[k0]?=B[0]?:=fun B=>by rw[hk0];exact dS S B
  have s0:∀(B:List Box) (x:Box),(S++B).set k0 x=S++B.set 0 x:=fun B x=>by rw[hk0];exact gq S B x
  have gY:∀B:List Box,(S++B)[a]?=some (.var [.yl id] false):=Mv hY;repeat with_reducible first|apply zd.nil|apply nx|apply wQ rfl|(first|apply zd.step|apply wW|apply wX|apply am.drawn [] hTT (aj aa (ent func35 rfl) h35 hbt) cP mixed;kernel_rfl);simp only[f58,eA,hn',hk,g0,s0,gY,xM,hcf,hcn,go_sem];rfl|refine am.regY hTT (aj aa (ent func35 rfl) h35 hbt) (p8 hy hs) cP ?_|refine wa ⟨by kernel_rfl,?_⟩
  exact⟨rfl,(SameLoops.app [.var (pkC c zn now) false] rfl (SameLoops.refl S)).trans hs,rfl,[.var (pkC c zn now) false],rfl⟩
def MF(c:Ch)(k:Nat)(now:List Int)(i:Nat):List (List PV) :=
 (((List.range c.depth.toNat).drop i).flatMap fun (n:Nat)=>if LY ((c.fs.take (now.length+1)).zip (now++[(n:Int)]))=true then[]else MH c.room c.depth c.fs k (now++[(n:Int)])).map fun p=>[pkV c p]
theorem Ov(c:Ch)(k:Nat)(now:List Int){i:Nat}(h:c.depth.toNat<=i):MF c k now i=[]:=by
 unfold MF;rw[Ef (by simpa using h)];rfl
theorem NO(c:Ch)(k:Nat)(now:List Int){i:Nat}(h:i<c.depth.toNat):MF c k now i=(if LY ((c.fs.take (now.length+1)).zip (now++[(i:Int)]))=true then[]else resP c k (now++[(i:Int)]))++MF c k now (i+1):=by
 unfold MF;rw[aP (Lz h),E2,Ec]
 congr 1
 split <;> rfl
theorem MN(id:Nat)(c:Ch)(hc:ChOk c)(k:Nat)(now:List Int)(low own low':List Box)(b:Bool)(a a':Nat)(hn:now.length+(k+1)=c.fs.length)(hnb:∀x∈now,-1000<=x∧x<=1000)(h0:OwnOk 0 low)(ho:OwnOk low.length own)
 (hY:∀lw:List Box,lw.length=low.length->(lw++own)[a]?=some (.var [.yl id] false)) (hF:∀lw:List Box,lw.length=low.length->(lw++own)[a']?=some (.var [.fn (.func 58) [] [.ip c.cells,.bp a 0,.bp a' 0]] false))
 (IH:∀(n:Nat) (lw own1 lw':List Box) (b1:Bool),(n:Int)<c.depth->lw.length=low.length->OwnOk 0 lw->OwnOk lw.length (own++own1)->FoldR (YR prog id) (resP c k (now++[(n:Int)])) lw b1 lw' ->
  ab prog 58 [pvN (now++[(n:Int)]),.ip c.cells,.bp a 0,.bp a' 0] (lw++(own++own1)) (.ret (.bool b1)) (lw'++(own++own1)))
 (h:FoldR (YR prog id) (MF c k now 0) low b low') :
 ab prog 58 [pvN now,.ip c.cells,.bp a 0,.bp a' 0] (low++own) (.ret (.bool b)) (low'++own):=by
 obtain⟨hl',h0'⟩:=LC h h0;have hlt':=NF h0' (by rw[hl'];exact ho:OwnOk low'.length own)
 have hlen':(low'++own).length=(low++own).length:=by simp[hl']
 refine ab.ofB hTT func58 rfl rfl ?_ hlen' (by rw[←hlen'];exact hlt') .bool
 have hml:=hc.len;have hdp:=hc.depth;obtain⟨D,hD⟩:∃D:Nat,c.depth=D:=⟨c.depth.toNat,by omega⟩
 have hDn:c.depth.toNat=D:=by omega
 have hn':((now.length:Int)==(c.fs.length:Int))=false:=by rw[EF];omega
 have hcf:=cY c.fs;have hcn:=cV now;obtain⟨zn,hzn,hzk⟩:=LJ now;rw[hzn];have hzf':c.zf≠.n:=fun e=>by have:=bd hc.ok e;rw[this]at hn;simp at hn
 have hk0:(low++own).length=low.length+own.length:=by simp
 generalize hK:low.length+own.length=k0 at *;have hS:∀lw:List Box,lw.length=low.length->(lw++own).length=k0:=fun lw h=>by simp[h];omega
 generalize hS0:low++own=S at *;have g0:∀B:List Box,(S++B)[k0]?=B[0]?:=fun B=>by rw[←hk0];exact dS S B
 have s0:∀(B:List Box) (x:Box),(S++B).set k0 x=S++B.set 0 x:=fun B x=>by rw[←hk0];exact gq S B x
 have es1:IntKind.i64.wrap ((now.length:Int)+1)=((now.length+1:Nat):Int):=ai (by omega) (by omega)
 have hsl0:(0:Int)<=((now.length+1:Nat):Int):=by omega
 have hsl1:((now.length+1:Nat):Int)<=(c.fs.length:Int):=by omega
 have hsl2:now.length+1<=c.fs.length:=by omega
 have hal:((c.fs.map dr).all fun y=>y.cells.length==3)=true:=by rw[FS];exact D7.2 fun _ _=>rfl
 simp only[PV.cells]at hal;have htk:(c.fs.map dr).take (now.length+1)=(c.fs.take (now.length+1)).map dr:=(Fo ..).symm;obtain⟨fp,hfp⟩:∃fp,fp=c.fs.take (now.length+1):=⟨_,rfl⟩;rw[←hfp]at htk;have hcp:=cY fp;repeat with_reducible first|refine nz aa ?_|apply ny;simp only[f58,hn',hk0,g0,s0,hcf,hcn,hzf',es1,hsl0,hsl1,hsl2,hal,htk,go_sem];rfl
 refine am.keep [39,38,7,5,0,1,2,3] (by simp only[go_sem];rfl) ?_
 refine am.loop (fun i s'=>∃lw:List Box,lw.length=low.length∧OwnOk 0 lw∧SameLoops S (lw++own)∧FoldR (YR prog id) (MF c k now i) lw b low' ∧
  s'=⟨[(39,ii (i:Nat)),(38,ii c.depth),(7,.bp k0 0),(5,.bool false),(0,.sl zn (now.map ii)),(1,.ip c.cells),(2,.bp a 0),(3,.bp a' 0)],60,lw++(own++[Box.var [ii c.room,ii c.depth,.sl .a (fp.map dr)] false])⟩)
  D ⟨low,rfl,h0,by rw[hS0];exact SameLoops.refl _,h,by rw[←Et,hS0];first|(simp only[go_sem];first|done|rfl)|rfl⟩ ?_
 rintro i _ hi' ⟨lw,hlw,hlw0,hsl,hfold,rfl⟩;have hkk:=hS lw hlw;have hYw:=hY lw hlw;have hFw:=hF lw hlw;rw[←Et];generalize hSi:lw++own=Si at *;have g0:∀B:List Box,(Si++B)[k0]?=B[0]?:=fun B=>by rw[←hkk];exact dS Si B
 have g1:∀(B:List Box) (n:Nat),(Si++B)[k0+n]?=B[n]?:=fun B n=>by rw[←hkk];exact dO Si B n
 have s0:∀(B:List Box) (x:Box),(Si++B).set k0 x=Si++B.set 0 x:=fun B x=>by rw[←hkk];exact gq Si B x
 have s1:∀(B:List Box) (n:Nat) (x:Box),(Si++B).set (k0+n) x=Si++B.set n x:=fun B n x=>by rw[←hkk];exact d8 Si B n x
 have gF:∀B:List Box,(Si++B)[a']?=some (.var [.fn (.func 58) [] [.ip c.cells,.bp a 0,.bp a' 0]] false):=Mv hFw;have hadd:∀n m:Nat,k0+n+m=k0+(n+m):=fun n m=>FF _ _ _
 by_cases hlt:i<D
 ·have hle:(i:Int)<c.depth:=by omega
  have hpv:=pvN_snoc now (i:Int);have e4:=wIs i (by omega)
  have hd1:dM ld (now.map ii)=some now:=j8 now;have q1:(now.length+1)*8<=140737488355328:=by omega
  have q2:now.length+1<=maxLen:=by unfold maxLen;omega
  have q3:now.length<=100000:=by omega
  obtain⟨E,hE⟩:∃E,E=now.map ii++[ii (i:Int)]:=⟨_,rfl⟩;have hEm:(now++[(i:Int)]).map ii=E:=by rw[hE];simp
  have hEc:ad E=true:=by rw[←hEm];exact cV _
  have hEp:pvN (now++[(i:Int)])=.sl .a E:=by rw[hpv,hE]
  have hcc:ad c.cells=true:=lU c;have hznc:(PV.sl zn (now.map ii)).closed=true:=hcn;have ha0:a<k0:=by rw[←hkk];exact(DR.1 hYw).1
  have ha1:a'<k0:=by rw[←hkk];exact(DR.1 hFw).1
  have hfpl:(now++[(i:Int)]).length=fp.length:=by rw[hfp,En];simp;omega
  obtain⟨x60,h60⟩:=L9 ⟨c.room,c.depth,.a,fp⟩ .a (now++[(i:Int)]) rfl rfl hfpl (by simp;omega) fun f hf=>hc.rank f (Ey (by rw[hfp]at hf;exact hf))
  have h60:ab prog 60 [.agg [ii c.room,ii c.depth,.sl .a (fp.map dr),.sl .a E]] [] (.ret (dV (LY (fp.zip (now++[(i:Int)]))) x60)) []:=by rw[←hEm];exact h60
  have hbt:bD 0 [PV.agg [ii c.room,ii c.depth,.sl .a (fp.map dr),.sl .a E]]=true:=ae 0 _ (by simp[ad,PV.closed,hcp,hEc])
  rw[NO c k now (by omega),←hfp]at hfold
  have fin:∀(Q:Out->St->Prop) (lw1 B':List Box) (tm:List (Nat×PV)),lw1.length=low.length->OwnOk 0 lw1->SameLoops (lw++own) (lw1++own)->FoldR (YR prog id) (MF c k now (i+1)) lw1 b low'->dl B'=true ->
   iK [39,38,7,5,0,1,2,3] tm=[(39,ii ((i+1:Nat):Int)),(38,ii c.depth),(7,.bp k0 0),(5,.bool false),(0,.sl zn (now.map ii)),(1,.ip c.cells),(2,.bp a 0),(3,.bp a' 0)] ->
   ak prog (fun i s'=>∃lw:List Box,lw.length=low.length∧OwnOk 0 lw∧SameLoops S (lw++own)∧FoldR (YR prog id) (MF c k now i) lw b low' ∧
    s'=⟨[(39,ii (i:Nat)),(38,ii c.depth),(7,.bp k0 0),(5,.bool false),(0,.sl zn (now.map ii)),(1,.ip c.cells),(2,.bp a 0),(3,.bp a' 0)],60,lw++(own++[Box.var [ii c.room,ii c.depth,.sl .a (fp.map dr)] false])⟩) D i (Si++[Box.var [ii c.room,ii c.depth,.sl .a (fp.map dr)] false]).length
    Q .normal ⟨tm,60,lw1++(own++(Box.var [ii c.room,ii c.depth,.sl .a (fp.map dr)] false::B'))⟩:=by
   intro Q lw1 B' tm l1' l2 hsl1 hf2 hnl hk;have hS1:=hS lw1 l1';have hlen:(lw1++(own++[Box.var [ii c.room,ii c.depth,.sl .a (fp.map dr)] false])).length=k0+1:=by
    rw[←Et,Ea,hS1];rfl
   refine ak.b hlt (kL.cutP [39,38,7,5,0,1,2,3] (lw1++(own++[Box.var [ii c.room,ii c.depth,.sl .a (fp.map dr)] false])) B' (by simp) (by rw[hlen];simp[hkk]) hk (fun p hp=>?_) (fun x hx=>?_) hnl) ⟨lw1,l1',l2,?_,hf2,rfl⟩
   ·rw[hlen]
    simp only[D6,Eb,EM]at hp;rcases hp with rfl|rfl|rfl|rfl|rfl|rfl|rfl|rfl
    ·exact .int
    ·exact .int
    ·exact .bp (by omega)
    ·exact .bool
    ·exact(av _ hznc).mono (by omega)
    ·exact(av _ (show(PV.ip c.cells).closed=true from hcc)).mono (by omega)
    ·exact .bp (by omega)
    ·exact .bp (by omega)
   ·rw[hlen]
    rw[←Et]at hx;rcases Ez.1 hx with hx|hx
    ·have:=NF l2 (by rw[l1'];exact ho:OwnOk lw1.length own) x hx
     rw[hS1]at this;exact this.mono (by omega)
    ·simp only[D6,Eb,EM]at hx
     subst hx;exact vLt (by simp[ad,PV.closed,hcp])
   ·rw[hSi]at hsl1
    exact hsl.trans hsl1
  obtain⟨C,hC⟩:∃C:List Box,C=if now=[]then[]else[.dead]:=⟨_,rfl⟩;have hC1:dl C=true:=by rw[hC];split <;> rfl
  have hC2:∀x∈C,x.ltB 0=true:=fun x hx=>by
   rw[hC]at hx;split at hx
   ·cases hx
   ·simp only[D6,Eb,EM]at hx;subst hx;rfl
  have gC:∀x:Box,(C++[x])[C.length]?=some x:=fun x=>by rw[D9 (DS _)];simp
  have sC:∀x y:Box,(C++[x]).set C.length y=C++[y]:=fun x y=>by rw[Fq _ _ (DS _)];simp
  have kC:k0+C.length+1+1=k0+(C.length+1+1):=by omega
  generalize hdis:LY (fp.zip (now++[(i:Int)]))=dis at hfold h60;obtain⟨fv,hfv⟩:∃fv:Box,fv=.var [ii x60.1,ii x60.2.1,ii x60.2.2] false:=⟨_,rfl⟩;have hfv0:fv.ltB 0=true:=by rw[hfv];rfl
  have hfvn:dl (.row false 3 1 E true::(C++[fv]))=true:=by
   rw[hfv];show dl (C++[_])=true;exact M3 hC1 rfl
  have eS:∀(l:List Box) (B:List Box),l++(own++B)=(l++own)++B:=fun l B=>(Et ..).symm
  have rcall:∀(b1:Bool) (lw1:List Box),FoldR (YR prog id) (resP c k (now++[(i:Int)])) lw b1 lw1 ->
   ab prog 58 [.sl .a E,.ip c.cells,.bp a 0,.bp a' 0] (Si++(Box.var [ii c.room,ii c.depth,.sl .a (fp.map dr)] false::.row false 3 1 E true::(C++[fv]))) (.ret (.bool b1)) (lw1++(own++(Box.var [ii c.room,ii c.depth,.sl .a (fp.map dr)] false::.row false 3 1 E true::(C++[fv])))) ∧
   SameLoops (Si++(Box.var [ii c.room,ii c.depth,.sl .a (fp.map dr)] false::.row false 3 1 E true::(C++[fv]))) (lw1++(own++(Box.var [ii c.room,ii c.depth,.sl .a (fp.map dr)] false::.row false 3 1 E true::(C++[fv])))):=by
   intro b1 lw1 hf1;have hown:OwnOk lw.length (own++(Box.var [ii c.room,ii c.depth,.sl .a (fp.map dr)] false::.row false 3 1 E true::(C++[fv]))):=by
    intro x hx;rcases Ez.1 hx with hx|hx
    ·exact(ho x hx).mono (by simp[hlw])
    ·refine(dD (m:=0) ?_).mono (Ee _)
     rcases D6.1 hx with rfl|hx
     ·exact ae 0 _ (by simp[ad,PV.closed,hcp])
     ·rcases D6.1 hx with rfl|hx
      ·exact ae 0 _ hEc
      ·rcases Ez.1 hx with hx|hx
       ·exact hC2 x hx
       ·simp only[D6,Eb,EM]at hx
        subst hx;exact hfv0
   have h1:=IH i lw _ lw1 b1 hle hlw hlw0 hown hf1;have h2:=iB hf1 hown;rw[hEp,eS lw,hSi]at h1;rw[eS lw,hSi]at h2;exact⟨h1,h2⟩
  rcases Decidable.em (now=[])with hnow|hnow
  case' inl =>
   rw[DZ hnow]at hC;subst hnow;have hza:zn=.n:=by
    rw[N8]at hzn;cases hzn;rfl
   subst hza;have r1:(1:Nat)*8<=140737488355328:=by omega
   have r2:1<=maxLen:=by unfold maxLen;omega
   repeat with_reducible first|(fail_if_success refine am.seq (x:=.region 10 _ _) ?_);(fail_if_success show am _ (.region 10 _ _) _ _);refine nz Oq ?_|apply ny;simp only[f58,hle,hkk,hadd,g0,g1,s0,s1,cfLh,MZ,c59L,r1,r2,hcf,hcn,aF,go_sem];rfl
   refine am.keep [9,39,38,7,5,0,1,2,3] (by simp only[go_sem];rfl) ?_
   refine am.freezeZ (tm':=[(9,.sl .a E),(39,ii (i:Nat)),(38,ii c.depth),(7,.bp k0 0),(5,.bool false),(0,.sl .n []),(1,.ip c.cells),(2,.bp a 0),(3,.bp a' 0)]) (sg':=Si++(.var [ii c.room,ii c.depth,.sl .a (fp.map dr)] false::.row false 3 1 E true::C)) 9 (k0+1) rfl (by rw[g1];rfl) rfl rfl (by rw[s1,hE,hC];rfl) (by rw[hE];rfl) ?_
  case' inr =>
   rw[D5 hnow]at hC;have hza:zn=.a:=by
    have:pvN now=.sl .a (now.map ii):=by unfold pvN;cases now with
     |nil=>exact absurd rfl hnow
     |cons x l=>rfl
    rw[this]at hzn;cases hzn;rfl
   subst hza;repeat with_reducible first|(fail_if_success refine am.seq (x:=.region 10 _ _) ?_);(fail_if_success show am _ (.region 10 _ _) _ _);refine nz Oq ?_|apply ny;simp only[f58,hle,hkk,hadd,g0,g1,s0,s1,cfLh,MZ,c59L,hd1,hnow,q1,q2,q3,hcf,hcn,aF,go_sem];rfl
   refine am.keep [9,39,38,7,5,0,1,2,3] (by simp only[go_sem];rfl) ?_
   refine am.freezeZ (tm':=[(9,.sl .a E),(39,ii (i:Nat)),(38,ii c.depth),(7,.bp k0 0),(5,.bool false),(0,.sl .a (now.map ii)),(1,.ip c.cells),(2,.bp a 0),(3,.bp a' 0)]) (sg':=Si++(.var [ii c.room,ii c.depth,.sl .a (fp.map dr)] false::.row false 3 1 E true::C)) 9 (k0+1) rfl (by rw[g1];rfl) (by rw[Ea,DX];rfl) (by rw[←hE];exact hEc) (by rw[s1,hE,hC];rfl) (by rw[hE];rfl) ?_
  all_goals
   cases dis
   ·rw[D5 Bool.false_ne_true]at hfold
    rcases FoldR.split hfold with ⟨rfl,hf1⟩|⟨lw1,hf1,hf2⟩
    ·obtain⟨hc1,hc2⟩:=rcall false low' hf1
     rw[hfv]at hc1 hc2;repeat with_reducible first|refine nz (ar (aj aa (ent func60 rfl) h60 hbt) (ent func58 rfl) hc1 hc2) ?_|apply ny;simp only[f58,cp,eA,dV,hkk,hadd,kC,gF,g0,g1,s0,s1,gC,sC,hcf,hcp,hEc,go_sem];rfl
     refine⟨rfl,?_,rfl,Box.var [ii c.room,ii c.depth,.sl .a (fp.map dr)] false::.row false 3 1 E true::(C++[.var [ii x60.1,ii x60.2.1,ii x60.2.2] false]),by rw[←Et]⟩
     have hnl2:dl (Box.var [ii c.room,ii c.depth,.sl .a (fp.map dr)] false::.row false 3 1 E true::(C++[fv]))=true:=hfvn;rw[hfv]at hnl2;exact hsl.trans ((SameLoops.app _ hnl2 (SameLoops.refl _)).trans hc2)
    ·obtain⟨hc1,hc2⟩:=rcall true lw1 hf1
     obtain⟨l1,l2⟩:=LC hf1 hlw0;rw[hfv]at hc1 hc2;repeat with_reducible first|refine nz (ar (aj aa (ent func60 rfl) h60 hbt) (ent func58 rfl) hc1 hc2) ?_|apply ny;simp only[f58,cp,eA,dV,hkk,hadd,kC,gF,g0,g1,s0,s1,gC,sC,e4,hcf,hcp,hEc,go_sem];rfl
     rw[hfv]at hfvn;exact fin _ lw1 _ _ (by omega) l2 (iB hf1 (by rw[hlw];exact ho)) hf2 hfvn (by first|(simp only[go_sem];first|done|rfl)|rfl)
   ·rw[DZ rfl,EA]at hfold
    repeat with_reducible first|refine nz (aj aa (ent func60 rfl) h60 hbt) ?_|apply ny;simp only[f58,eA,dV,hkk,hadd,kC,g0,g1,s0,s1,gC,sC,e4,hcf,hcp,hEc,go_sem];rfl
    rw[hfv]at hfvn;have f:=fun Q tm hk=>fin Q lw _ tm hlw hlw0 (SameLoops.refl _) hfold hfvn hk
    rw[eS lw,hSi]at f;exact f _ _ (by first|(simp only[go_sem];first|done|rfl)|rfl)
 ·have hle:¬(i:Int)<c.depth:=by omega
  rw[Ov c k now (by omega)]at hfold
  have hbl:b=true∧low'=lw:=by cases hfold;exact⟨rfl,rfl⟩
  obtain⟨rfl,rfl⟩:=hbl;repeat with_reducible first|refine nz aa ?_|apply ny;simp only[f58,hle,go_sem];rfl
  refine⟨rfl,hsl.trans (SameLoops.app [Box.var [ii c.room,ii c.depth,.sl .a (fp.map dr)] false] rfl ?_),rfl,[Box.var [ii c.room,ii c.depth,.sl .a (fp.map dr)] false],by rw[hSi]⟩
  exact SameLoops.refl _
theorem Ok(id:Nat)(c:Ch)(hc:ChOk c):∀(k:Nat) (now:List Int) (low own low':List Box) (b:Bool) (a a':Nat),now.length+k=c.fs.length->(∀x∈now,-1000<=x∧x<=1000)->OwnOk 0 low->OwnOk low.length own ->
 (∀lw:List Box,lw.length=low.length->(lw++own)[a]?=some (.var [.yl id] false))->(∀lw:List Box,lw.length=low.length->(lw++own)[a']?=some (.var [.fn (.func 58) [] [.ip c.cells,.bp a 0,.bp a' 0]] false)) ->
 FoldR (YR prog id) (resP c k now) low b low'->ab prog 58 [pvN now,.ip c.cells,.bp a 0,.bp a' 0] (low++own) (.ret (.bool b)) (low'++own):=by
 intro k;induction k with
 |zero =>
  intro now low own low' b a a' hn hnb h0 ho hY hF h;exact MP id c hc now low own low' b a a' (by omega) hnb h0 ho (hY low rfl) h
 |succ k ih =>
  intro now low own low' b a a' hn hnb h0 ho hY hF h;refine MN id c hc k now low own low' b a a' hn hnb h0 ho hY hF (fun n lw own1 lw' b1 hnd hl hl0 hown hf=>?_) h
  have hdp:=hc.depth;refine ih (now++[(n:Int)]) lw (own++own1) lw' b1 a a' (by simp;omega) (fun x hx=>?_) hl0 hown (fun l2 h2=>?_) (fun l2 h2=>?_) hf
  ·rcases Ez.1 hx with hx|hx
   ·exact hnb x hx
   ·simp only[D6,Eb,EM]at hx
    subst hx;omega
  ·rw[←Et];exact Mv (hY l2 (by omega)) _
  ·rw[←Et];exact Mv (hF l2 (by omega)) _
def rightsL(c:Ch):List (List Int):=MH c.room c.depth c.fs c.fs.length []
theorem MT(c:Ch)(hc:ChOk c):uN prog 57 (fun id=>[.yl id,.ip c.cells]) ((rightsL c).map fun p=>[pkV c p]):=by
 intro id low b low' h0 hid h;obtain⟨hl',h0'⟩:=LC h h0;have hspc:(PV.ip c.cells).closed=true:=lU c;have hown:∀lw:List Box,lw.length=low.length->OwnOk lw.length [.var [.yl id] false,.var [.fn (.func 58) [] [.ip c.cells,.bp low.length 0,.bp (low.length+1) 0]] false]:=by
  intro lw hlw x hx;simp only[D6,Eb,EM]at hx;rcases hx with rfl|rfl
  ·intro y hy
   simp at hy;subst hy;exact .yl (by simp;omega)
  ·intro y hy
   simp at hy;subst hy;refine .fn (fun c hc=>by cases hc) fun z hz=>?_
   simp only[D6,Eb,EM]at hz;rcases hz with rfl|rfl|rfl
   ·exact(av _ hspc).mono (by omega)
   ·exact .bp (by simp;omega)
   ·exact .bp (by simp;omega)
 have hcl:=Ok id c hc c.fs.length [] low [.var [.yl id] false,.var [.fn (.func 58) [] [.ip c.cells,.bp low.length 0,.bp (low.length+1) 0]] false] low' b low.length (low.length+1) (by simp) (fun x hx=>by cases hx) h0 (hown low rfl)
  (fun lw h=>by rw[←h];exact dS _ _) (fun lw h=>by rw[←h];exact dO _ _ 1) h
 have hsl:=iB h (hown low rfl);have hsl2:SameLoops low low':=by
  have:=iB (own:=[]) h (fun x hx=>by cases hx)
  simpa using this
 refine⟨.tuple [],?_,hsl2⟩;rw[N8]at hcl;refine ab.ofB hTT func57 rfl rfl ?_ hl' (fun x hx=>by have:=h0' x hx;rw[hl']at this;simpa using this) (.tuple (fun c hc=>by cases hc))
 have g0:∀B:List Box,(low++B)[low.length]?=B[0]?:=dS low;have g1:∀(B:List Box) (n:Nat),(low++B)[low.length+n]?=B[n]?:=dO low;have s0:∀(B:List Box) (x:Box),(low++B).set low.length x=low++B.set 0 x:=gq low;have s1:∀(B:List Box) (n:Nat) (x:Box),(low++B).set (low.length+n) x=low++B.set n x:=d8 low;repeat with_reducible first|refine nz (ar aa (ent func58 rfl) hcl hsl) ?_|apply ny;simp only[f57,cp,g0,g1,s0,s1,bl,go_sem];rfl
 exact⟨rfl,SameLoops.app [.var [.yl id] false,.var [.fn (.func 58) [] [.ip c.cells,.bp low.length 0,.bp (low.length+1) 0]] false] rfl hsl2,rfl,[.var [.yl id] false,.var [.fn (.func 58) [] [.ip c.cells,.bp low.length 0,.bp (low.length+1) 0]] false],rfl⟩
theorem Me(c:Ch):ab prog 29 [.agg c.cells] [] (.ret (.fn (.func 57) [] [.ip c.cells])) []:=by
 refine ab.ofF hTT func29 rfl rfl ?_;repeat with_reducible first|refine nz aa ?_|apply ny;simp only[f29,bl,go_sem];rfl
 exact⟨rfl,rfl,_,rfl,xZ _ _ (lU c)⟩
end Go.Pv
