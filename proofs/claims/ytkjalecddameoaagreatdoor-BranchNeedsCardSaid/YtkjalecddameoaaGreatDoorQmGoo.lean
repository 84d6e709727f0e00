import Derived.Test.YtkjalecddameoaaGreatDoorQmTak
set_option linter.all false
open Go.Proofs.Tryz
namespace Go.Pv
open Go Go.RowKit Go.Proofs
set_option maxRecDepth 200000
set_option maxHeartbeats 8000000
def e8(G:List (List Nat×List Int))(X:List Int):Bool:=G.any fun d=>(bH d.1).all fun x=>decide (x∈X)
theorem HW(G:List (List Nat×List Int))(c:List Nat):e8 G (bH c)=JL (G.map (·.1)) c:=by
 unfold e8 JL;rw[List.any_map]
 congr 1
 funext d
 show(bH d.1).all _=d.1.all _
 unfold bH;rw[FS]
 congr 1
 funext i
 show decide ((i:Int)∈bH c)=_;rw[FD,Eo,Eo,zE]
theorem H3(zg:Z)(G:List (List Nat×List Int))(zr:Z)(X:List Int)(hzg:zg=.n->G=[])(hzr:zOk zr (X.map ii)=true)(hG:G.length<=1000)(hX:X.length<=1000)(hR:∀d∈G,d.1.length<=1000):
 ab prog 114 [.sl zg (G.map ddV),.sl zr (X.map ii)] [] (.ret (.bool (e8 G X))) []:=by
 refine ab.of0 hTT func114 rfl rfl ?_;have hdX:aN (.sl zr (X.map ii))=some X:=aI hzr;have hcX:=ac X;have hXm:X.length<=100000:=by omega
 have hcG:=cr G;repeat with_reducible first|refine nz aa ?_|apply ny;simp only[f114,go_sem];rfl
 refine am.loop (fun i s'=>e8 G X=e8 (G.drop i) X∧s'=⟨[(5,ii (i:Int)),(4,.bool false),(0,.sl zg (G.map ddV)),(1,.sl zr (X.map ii))],38,[]⟩) G.length ⟨rfl,by first|(simp only[go_sem];first|done|rfl)|rfl⟩ ?_
 rintro i _ hi ⟨hm,rfl⟩;by_cases hlt:i<G.length
 ·obtain⟨d,hd⟩:=gex hlt
  have hd':(G.map ddV)[i]?=some (.agg [.sl .a ((bH d.1).map ii),.sl .a (d.2.map ii)]):=aw hd;have hlt':(i:Int)<G.length:=by omega
  have hz':zg≠.n:=fun e=>by rw[hzg e]at hlt;simp at hlt
  have e4:=wIs i (by omega)
  have hRn:(bH d.1).length<=1000:=by unfold bH;rw[DX];exact hR d (DU hd)
  rw[aP hd,show e8 (d::G.drop (i+1)) X=(((bH d.1).all fun x=>decide (x∈X))||e8 (G.drop (i+1)) X)from rfl]at hm
  generalize bH d.1=R at hd' hRn hm;have hcR:=ac R;repeat with_reducible first|refine nz aa ?_|apply ny;simp only[f114,hlt',go_sem];rfl
  refine am.keep [7,6,5,4,0,1] (by simp only[go_sem];rfl) ?_
  refine am.loop (fun k s'=>s'=⟨[(7,ii (k:Int)),(6,.bool ((R.take k).all fun x=>decide (x∈X))),(5,ii (i:Int)),(4,.bool false),(0,.sl zg (G.map ddV)),(1,.sl zr (X.map ii))],38,[]⟩) R.length (by first|(simp only[go_sem];first|done|rfl)|rfl) ?_
  rintro k _ hk rfl;by_cases hlk:k<R.length
  ·obtain⟨x,hx⟩:=gex hlk
   have hx':(R.map ii)[k]?=some (ii x):=aw hx;have hlk':(k:Int)<R.length:=by omega
   have e5:=wIs k (by omega)
   have hst:((R.take (k+1)).all fun x=>decide (x∈X))=(((R.take k).all fun x=>decide (x∈X))&&decide (x∈X)):=by
    rw[Ev,hx,List.all_append];simp
   generalize ((R.take k).all fun x=>decide (x∈X))=b at hst ⊢
   cases b
   ·rw[Gj]at hst
    repeat with_reducible first|refine nz aa ?_|apply ny;simp only[f114,hd',hz',hlt',hlk',e5,go_sem];rfl
    refine ak.k [7,6,5,4,0,1] hlk (by simp only[go_sem];rfl) (by rw[hst])
   ·rw[EJ]at hst
    repeat with_reducible first|refine nz kf ?_|apply ny;simp only[f114,cfVr,c94,hd',hz',hlt',hlk',hx',hdX,hXm,hcX,hcR,e5,go_sem];rfl
    refine ak.k [7,6,5,4,0,1] hlk (by simp only[go_sem];rfl) (by rw[hst])
  ·obtain rfl:k=R.length:=by omega
   have hlk':¬(R.length:Int)<R.length:=by omega
   rw[Eg];cases hb:R.all fun x=>decide (x∈X)
   ·rw[hb,IS]at hm
    repeat with_reducible first|refine nz aa ?_|apply ny;simp only[f114,hd',hz',hlt',hlk',e4,go_sem];rfl
    refine ak.k [5,4,0,1] hlt (by simp only[go_sem];rfl) ⟨hm,by first|(simp only[go_sem];first|done|rfl)|rfl⟩
   ·rw[hb,Bool.true_or]at hm
    rw[hm];repeat with_reducible first|refine nz aa ?_|apply ny;simp only[f114,hd',hz',hlt',hlk',e4,go_sem];rfl
    exact⟨rfl,rfl,_,rfl,rfl⟩
 ·have hlt':¬(i:Int)<G.length:=by omega
  rw[hm,Ef (by omega)]
  repeat with_reducible first|refine nz aa ?_|apply ny;simp only[f114,hlt',go_sem];rfl
  exact⟨rfl,rfl,_,rfl,rfl⟩
def E0(o:Option (List Nat))(z:Z)(X:List Int)(b:Bool):Prop:=(z=.n->X=[])∧match o with
 |some x=>b=true∧PV.sl z (X.map ii)=slc x
 |none=>b=false
def NeedP(s:Sty)(zg:Z)(G:List (List Nat×List Int))(r:Nat):Prop:=∀now:List Nat,(∀x∈now,x<s.rz.length)->now.length+r<=20->∃z X b,E0 ((jc s.rz.length r now).find? fun c=>e8 G (bH c)) z X b ∧
 ab prog 113 [.agg s.cells,.sl zg (G.map ddV),slc now,ii ((now.length+r:Nat):Int)] [] (.ret (.tuple [.sl z (X.map ii),.bool b])) []
theorem Hp(c:List Nat):slc c=.sl (if c=[]then .n else .a) ((bH c).map ii):=by unfold slc;rw[pG]
theorem needed_0(s:Sty)(hok:s.ok=true)(zg:Z)(G:List (List Nat×List Int))(hzg:zg=.n->G=[])(hG:G.length<=1000)(hR:∀d∈G,d.1.length<=1000):NeedP s zg G 0:=by
 intro now hnow hlen;have hL:jc s.rz.length 0 now=[now]:=by unfold jc;rw[c7];simp
 obtain⟨z,hz⟩:∃z:Z,z=if now=[]then .n else .a:=⟨_,rfl⟩;have hzn:z=.n->now=[]:=fun e=>by
  rw[hz]at e;split at e
  ·assumption
  ·cases e
 have hns:slc now=.sl z ((bH now).map ii):=by rw[Hp,hz]
 have hil:(bH now).length=now.length:=DX ..;refine⟨z,bH now,e8 G (bH now),⟨fun e=>by rw[hzn e];rfl,?_⟩,?_⟩
 ·rw[hL,List.find?_cons,List.find?_nil]
  cases hc:e8 G (bH now)
  ·rfl
  ·exact⟨rfl,hns.symm⟩
 ·refine ab.ofF hTT func113 rfl rfl ?_
  have hzo:zOk z ((bH now).map ii)=true:=by
   cases z with
   |n=>rw[hzn rfl];rfl
   |a=>rfl
   |f=>rfl
  have hf:=H3 zg G z (bH now) hzg hzo hG (by rw[hil];omega) hR
  have hc1:=ap s.sc;have hc2:=ao s.rz;have hcG:=cr G;have hcN:=ac (bH now);have hltb:bD 0 [PV.sl zg (G.map ddV),.sl z ((bH now).map ii)]=true:=ae 0 _ (by simp[ad,PV.closed,hcG,hcN])
  rw[hns];obtain⟨MM,hMM⟩:∃MM:Int,MM=((now.length+0:Nat):Int):=⟨_,rfl⟩;rw[←hMM];have hq:(((bH now).length:Int)==MM)=true:=by rw[hMM,hil];simp
  clear hMM;generalize e8 G (bH now)=b at hf ⊢;generalize bH now=X at *;repeat with_reducible first|refine nz (aj aa (ent func114 rfl) hf hltb) ?_|apply ny;simp only[f113,eA,hq,hc1,hc2,hcG,hcN,go_sem];rfl
  exact⟨rfl,rfl,_,rfl,aq (v:=.tuple [.sl z (X.map ii),.bool b]) (by simp[PV.closed,ad,hcN])⟩
theorem Ic(s:Sty)(hok:s.ok=true)(zg:Z)(G:List (List Nat×List Int))(r:Nat)(hk:s.rz.length<=10)(IH:NeedP s zg G r)(now:List Nat)(hn0:now=[])(hnow:∀x∈now,x<s.rz.length)(hlen:now.length+(r+1)<=20):
 ∃z X b,E0 ((jc s.rz.length (r+1) now).find? fun c=>e8 G (bH c)) z X b∧ab prog 113 [.agg s.cells,.sl zg (G.map ddV),slc now,ii ((now.length+(r+1):Nat):Int)] [] (.ret (.tuple [.sl z (X.map ii),.bool b])) []:=by
 have hc1:=ap s.sc;have hc2:=ao s.rz;have hcG:=cr G;have hzr:=s.ok_r hok;have hne:((now.length:Int)==((now.length+(r+1):Nat):Int))=false:=by rw[EF];omega
 have hcn:=aO now;have hstep:=rf s.rz.length r now;have hIH:∀j,j<s.rz.length->∃z X b,E0 ((jc s.rz.length r (now++[j])).find? fun c=>e8 G (bH c)) z X b∧ab prog 113 [.agg s.cells,.sl zg (G.map ddV),.sl .a (nn now++[ii (j:Int)]),ii ((now.length+(r+1):Nat):Int)] [] (.ret (.tuple [.sl z (X.map ii),.bool b])) []:=fun j hj=>by
  obtain⟨z,X,b,h1,h2⟩:=IH (now++[j]) (fun x hx=>by
   rcases Ez.1 hx with hx|hx
   ·exact hnow x hx
   ·rw[Ed.1 hx];exact hj) (by simp;omega)
  rw[Hb (by simp),oK,rQ,Ea,show now.length+[j].length+r=now.length+(r+1)by simp;omega]at h2
  exact⟨z,X,b,h1,h2⟩
 have hfr:jy now<=s.rz.length:=by
  unfold jy;split
  ·exact Ee _
  ·rename_i x hx
   have:=hnow x (GN hx)
   omega
 generalize jc s.rz.length (r+1) now=T at hstep ⊢;have hbm:((now.length+(r+1):Nat):Int)<=20:=by omega
 generalize ((now.length+(r+1):Nat):Int)=MM at hne hIH hbm ⊢
 suffices hw:∃x:Z×List Int×Bool,E0 (T.find? fun c=>e8 G (bH c)) x.1 x.2.1 x.2.2∧ab prog 113 [.agg s.cells,.sl zg (G.map ddV),slc now,ii MM] [] (.ret (.tuple [.sl x.1 (x.2.1.map ii),.bool x.2.2])) []by
  obtain⟨⟨z,X,b⟩,h1,h2⟩:=hw;exact⟨z,X,b,h1,h2⟩
 have hTf:∃x:Z×List Int×Bool,E0 (T.find? fun c=>e8 G (bH c)) x.1 x.2.1 x.2.2∧((T.find? fun c=>e8 G (bH c))=none->x=(.n,[],false)):=by
  cases hf:T.find? fun c=>e8 G (bH c)with
  |none=>exact⟨(.n,[],false),⟨fun _=>rfl,rfl⟩,fun _=>rfl⟩
  |some c =>
   have h1:((if c=[]then Z.n else Z.a)=.n->bH c=[]):=fun e=>by
    split at e
    ·rename_i h;rw[h];rfl
    ·cases e
   exact⟨(if c=[]then .n else .a,bH c,true),⟨h1,rfl,(Hp c).symm⟩,(fun e=>by cases e)⟩
 obtain⟨⟨z,X,b⟩,hx1,hx2⟩:=hTf;refine⟨(z,X,b),hx1,?_⟩;have hx1:E0 (T.find? fun c=>e8 G (bH c)) z X b:=hx1
 have hcX:=ac X;refine ab.ofF hTT func113 rfl rfl ?_;subst hn0;have hf0:jy []=0:=rfl;have hs0:slc []=.sl .n []:=rfl;have hnn0:nn []=[]:=rfl;have hg:¬(0:Int)<((0:Nat):Int):=by decide
 rw[hs0];rw[hnn0]at hcn;rw[hf0]at hstep hfr;have hIH:∀j,j<s.rz.length->∃z X b,E0 ((jc s.rz.length r ([]++[j])).find? fun c=>e8 G (bH c)) z X b∧ab prog 113 [.agg s.cells,.sl zg (G.map ddV),.sl .a [ii (j:Int)],ii MM] [] (.ret (.tuple [.sl z (X.map ii),.bool b])) []:=hIH
 have hne:((0:Int)==MM)=false:=hne;repeat with_reducible first|refine nz aa ?_|apply ny;simp only[f113,hne,hg,EW,ET,go_sem];rfl
 refine am.keep [11,9,8,4,1,2,3] (by simp only[go_sem];rfl) ?_
 refine am.loop (fun i s'=>T.find? (fun c=>e8 G (bH c))=((List.range' (0+i) (s.rz.length-(0+i))).flatMap fun j=>jc s.rz.length r ([]++[j])).find? (fun c=>e8 G (bH c))∧s'=⟨[(11,ii ((0+i:Nat):Int)),(9,.bool false),(8,.sl .n []),(4,.bp 0 0),(1,.sl zg (G.map ddV)),(2,(.sl .n [])),(3,ii MM)],54,[.var s.cells false]⟩) (s.rz.length-0) ⟨by rw[hstep],by first|(simp only[go_sem];first|done|rfl)|rfl⟩ ?_
 rintro i _ hi ⟨hT,rfl⟩;by_cases hlt:i<s.rz.length-0
 ·obtain⟨j,hj⟩:∃j,j=0+i:=⟨_,rfl⟩
  have hj2:0+(i+1)=j+1:=by omega
  have hjl:j<s.rz.length:=by omega
  have hjl':(j:Int)<s.rz.length:=by omega
  have e4:=wIs j (by omega)
  rw[←hj,show s.rz.length-j=(s.rz.length-(j+1))+1 by omega,Fd,E2,List.find?_append]at hT
  obtain⟨z1,X1,b1,hF1,hrec⟩:=hIH j hjl;rw[←hj];have q3:([]:List Nat).length*8<=140737488355328:=by omega
  have q4:([]:List Nat).length<=maxLen:=by unfold maxLen;omega
  have q5:(([]:List Nat).length+1)*8<=140737488355328:=by omega
  have q6:([]:List Nat).length+1<=maxLen:=by unfold maxLen;omega
  have hcR:ad ([ii (j:Int)])=true:=by have:=aO ([]++[j]);rw[oK,rQ]at this;exact this
  have hltb:bD 0 [PV.agg s.cells,.sl zg (G.map ddV),.sl .a ([ii (j:Int)]),ii MM]=true:=ae 0 _ (by simp[Sty.cells,ad,PV.closed,hc1,hc2,hcG,hcR])
  have hcX1:=ac X1;cases b1 with
  |false =>
   have hF2:(jc s.rz.length r ([]++[j])).find? (fun c=>e8 G (bH c))=none:=by
    cases hf:(jc s.rz.length r ([]++[j])).find? fun c=>e8 G (bH c)with
    |none=>rfl
    |some c=>rw[hf]at hF1;cases hF1.2.1
   rw[hF2,Option.none_or]at hT;repeat with_reducible first|refine nz (aj aa (ent func113 rfl) hrec hltb) ?_|apply ny;simp only[f113,eA,hjl',EG,e4,hc1,hc2,hcG,hcn,hcR,hcX1,cz,E9,Fl,go_sem];rfl
   refine ak.t 1 [11,9,8,4,1,2,3] hlt (by simp only[aA,az,cb,an,aF,ae 1 _ hcG,go_sem]) ⟨by rw[hj2];exact hT,by rw[hj2];first|(simp only[go_sem];first|done|rfl)|rfl⟩
  |true =>
   obtain⟨hz1,hF2⟩:=hF1;cases hf:(jc s.rz.length r ([]++[j])).find? fun c=>e8 G (bH c)with
   |none=>rw[hf]at hF2;cases hF2
   |some c =>
    rw[hf]at hF2 hT;have hT:T.find? (fun c=>e8 G (bH c))=some c:=hT
    rw[hT]at hx1;obtain⟨_,rfl,hXs⟩:=hx1;have hV:PV.sl z1 (X1.map ii)=.sl z (X.map ii):=hF2.2.trans hXs.symm;rw[hV]at hrec;repeat with_reducible first|refine nz (aj aa (ent func113 rfl) hrec hltb) ?_|apply ny;simp only[f113,eA,hjl',EG,e4,hc1,hc2,hcG,hcn,hcR,hcX,cz,E9,Fl,go_sem];rfl
    exact⟨rfl,rfl,_,rfl,aq (v:=.tuple [.sl z (X.map ii),.bool true]) (by simp[PV.closed,ad,hcX])⟩
 ·rw[show s.rz.length-(0+i)=0 by omega]at hT
  have hT:T.find? (fun c=>e8 G (bH c))=none:=hT
  have hx2:=hx2 hT;injection hx2 with hx2 hx3
  injection hx3 with hx3 hx4
  have hx2:z=.n:=hx2;have hx3:X=[]:=hx3;have hx4:b=false:=hx4;subst hx2 hx3 hx4;have hlt':¬((0+i:Nat):Int)<s.rz.length:=by omega
  generalize ((0+i:Nat):Int)=jj at hlt' ⊢;repeat with_reducible first|refine nz aa ?_|apply ny;simp only[f113,hlt',go_sem];rfl
  exact⟨rfl,rfl,_,rfl,aq rfl⟩
theorem HR(s:Sty)(hok:s.ok=true)(zg:Z)(G:List (List Nat×List Int))(r:Nat)(hk:s.rz.length<=10)(IH:NeedP s zg G r)(now:List Nat)(hn0:now≠[])(hnow:∀x∈now,x<s.rz.length)(hlen:now.length+(r+1)<=20):
 ∃z X b,E0 ((jc s.rz.length (r+1) now).find? fun c=>e8 G (bH c)) z X b∧ab prog 113 [.agg s.cells,.sl zg (G.map ddV),slc now,ii ((now.length+(r+1):Nat):Int)] [] (.ret (.tuple [.sl z (X.map ii),.bool b])) []:=by
 have hc1:=ap s.sc;have hc2:=ao s.rz;have hcG:=cr G;have hzr:=s.ok_r hok;have hne:((now.length:Int)==((now.length+(r+1):Nat):Int))=false:=by rw[EF];omega
 have hcn:=aO now;have hstep:=rf s.rz.length r now;have hIH:∀j,j<s.rz.length->∃z X b,E0 ((jc s.rz.length r (now++[j])).find? fun c=>e8 G (bH c)) z X b∧ab prog 113 [.agg s.cells,.sl zg (G.map ddV),.sl .a (nn now++[ii (j:Int)]),ii ((now.length+(r+1):Nat):Int)] [] (.ret (.tuple [.sl z (X.map ii),.bool b])) []:=fun j hj=>by
  obtain⟨z,X,b,h1,h2⟩:=IH (now++[j]) (fun x hx=>by
   rcases Ez.1 hx with hx|hx
   ·exact hnow x hx
   ·rw[Ed.1 hx];exact hj) (by simp;omega)
  rw[Hb (by simp),oK,rQ,Ea,show now.length+[j].length+r=now.length+(r+1)by simp;omega]at h2
  exact⟨z,X,b,h1,h2⟩
 have hfr:jy now<=s.rz.length:=by
  unfold jy;split
  ·exact Ee _
  ·rename_i x hx
   have:=hnow x (GN hx)
   omega
 generalize jc s.rz.length (r+1) now=T at hstep ⊢;have hbm:((now.length+(r+1):Nat):Int)<=20:=by omega
 generalize ((now.length+(r+1):Nat):Int)=MM at hne hIH hbm ⊢
 suffices hw:∃x:Z×List Int×Bool,E0 (T.find? fun c=>e8 G (bH c)) x.1 x.2.1 x.2.2∧ab prog 113 [.agg s.cells,.sl zg (G.map ddV),slc now,ii MM] [] (.ret (.tuple [.sl x.1 (x.2.1.map ii),.bool x.2.2])) []by
  obtain⟨⟨z,X,b⟩,h1,h2⟩:=hw;exact⟨z,X,b,h1,h2⟩
 have hTf:∃x:Z×List Int×Bool,E0 (T.find? fun c=>e8 G (bH c)) x.1 x.2.1 x.2.2∧((T.find? fun c=>e8 G (bH c))=none->x=(.n,[],false)):=by
  cases hf:T.find? fun c=>e8 G (bH c)with
  |none=>exact⟨(.n,[],false),⟨fun _=>rfl,rfl⟩,fun _=>rfl⟩
  |some c =>
   have h1:((if c=[]then Z.n else Z.a)=.n->bH c=[]):=fun e=>by
    split at e
    ·rename_i h;rw[h];rfl
    ·cases e
   exact⟨(if c=[]then .n else .a,bH c,true),⟨h1,rfl,(Hp c).symm⟩,(fun e=>by cases e)⟩
 obtain⟨⟨z,X,b⟩,hx1,hx2⟩:=hTf;refine⟨(z,X,b),hx1,?_⟩;have hx1:E0 (T.find? fun c=>e8 G (bH c)) z X b:=hx1
 have hcX:=ac X;refine ab.ofF hTT func113 rfl rfl ?_;obtain⟨la,hla⟩:∃la,now.getLast?=some la:=⟨_,List.getLast?_eq_some_getLast hn0⟩;have hlp:0<now.length:=Gk.2 hn0;have hg:(0:Int)<(now.length:Nat):=by omega
 have hf0:jy now=la+1:=by unfold jy;rw[hla]
 have hlg:now[now.length-1]?=some la:=by rw[←Gn];exact hla
 have hlg':=mz hlg;have hlal:=hnow la (GN hla);have e1:IntKind.i64.wrap ((now.length:Int)-1)=((now.length-1:Nat):Int):=(ai (by omega) (by omega)).trans (by omega)
 have e2:=wIs la (by omega)
 have e3:((now.length-1:Nat):Int)<(now.length:Nat):=by omega
 rw[Hb hn0];rw[hf0]at hstep hfr;have hna:((nn now).all fun y=>y.cells.length==1)=true:=by unfold nn;rw[FS];exact D7.2 fun _ _=>rfl
 simp only[PV.cells]at hna;have hnE:(nn now).isEmpty=false:=by
  cases now with
  |nil=>exact absurd rfl hn0
  |cons x r=>rfl
 generalize now.length-1=nl at hlg' e1 e3;repeat with_reducible first|refine nz aa ?_|apply ny;simp only[f113,hne,hg,hlg',e1,e2,e3,EW,cz,go_sem];rfl
 refine am.keep [11,9,8,4,1,2,3] (by simp only[go_sem];rfl) ?_
 refine am.loop (fun i s'=>T.find? (fun c=>e8 G (bH c))=((List.range' ((la+1)+i) (s.rz.length-((la+1)+i))).flatMap fun j=>jc s.rz.length r (now++[j])).find? (fun c=>e8 G (bH c))∧s'=⟨[(11,ii (((la+1)+i:Nat):Int)),(9,.bool false),(8,.sl .n []),(4,.bp 0 0),(1,.sl zg (G.map ddV)),(2,(.sl .a (nn now))),(3,ii MM)],54,[.var s.cells false]⟩) (s.rz.length-(la+1)) ⟨by rw[hstep],by first|(simp only[go_sem];first|done|rfl)|rfl⟩ ?_
 rintro i _ hi ⟨hT,rfl⟩;by_cases hlt:i<s.rz.length-(la+1)
 ·obtain⟨j,hj⟩:∃j,j=(la+1)+i:=⟨_,rfl⟩
  have hj2:(la+1)+(i+1)=j+1:=by omega
  have hjl:j<s.rz.length:=by omega
  have hjl':(j:Int)<s.rz.length:=by omega
  have e4:=wIs j (by omega)
  rw[←hj,show s.rz.length-j=(s.rz.length-(j+1))+1 by omega,Fd,E2,List.find?_append]at hT
  obtain⟨z1,X1,b1,hF1,hrec⟩:=hIH j hjl;rw[←hj];have q3:now.length*8<=140737488355328:=by omega
  have q4:now.length<=maxLen:=by unfold maxLen;omega
  have q5:(now.length+1)*8<=140737488355328:=by omega
  have q6:now.length+1<=maxLen:=by unfold maxLen;omega
  have hcR:ad (nn now++[ii (j:Int)])=true:=by have:=aO (now++[j]);rw[oK,rQ]at this;exact this
  have hltb:bD 0 [PV.agg s.cells,.sl zg (G.map ddV),.sl .a (nn now++[ii (j:Int)]),ii MM]=true:=ae 0 _ (by simp[Sty.cells,ad,PV.closed,hc1,hc2,hcG,hcR])
  have hcX1:=ac X1;cases b1 with
  |false =>
   have hF2:(jc s.rz.length r (now++[j])).find? (fun c=>e8 G (bH c))=none:=by
    cases hf:(jc s.rz.length r (now++[j])).find? fun c=>e8 G (bH c)with
    |none=>rfl
    |some c=>rw[hf]at hF1;cases hF1.2.1
   rw[hF2,Option.none_or]at hT;repeat with_reducible first|refine nz (aj aa (ent func113 rfl) hrec hltb) ?_|apply ny;simp only[f113,eA,hjl',hna,hnE,q3,q4,q5,q6,e4,hc1,hc2,hcG,hcn,hcR,hcX1,cz,E9,Fl,go_sem];rfl
   refine ak.t 1 [11,9,8,4,1,2,3] hlt (by simp only[aA,az,cb,an,aF,ae 1 _ hcG,go_sem]) ⟨by rw[hj2];exact hT,by rw[hj2];first|(simp only[go_sem];first|done|rfl)|rfl⟩
  |true =>
   obtain⟨hz1,hF2⟩:=hF1;cases hf:(jc s.rz.length r (now++[j])).find? fun c=>e8 G (bH c)with
   |none=>rw[hf]at hF2;cases hF2
   |some c =>
    rw[hf]at hF2 hT;have hT:T.find? (fun c=>e8 G (bH c))=some c:=hT
    rw[hT]at hx1;obtain⟨_,rfl,hXs⟩:=hx1;have hV:PV.sl z1 (X1.map ii)=.sl z (X.map ii):=hF2.2.trans hXs.symm;rw[hV]at hrec;repeat with_reducible first|refine nz (aj aa (ent func113 rfl) hrec hltb) ?_|apply ny;simp only[f113,eA,hjl',hna,hnE,q3,q4,q5,q6,e4,hc1,hc2,hcG,hcn,hcR,hcX,cz,E9,Fl,go_sem];rfl
    exact⟨rfl,rfl,_,rfl,aq (v:=.tuple [.sl z (X.map ii),.bool true]) (by simp[PV.closed,ad,hcX])⟩
 ·rw[show s.rz.length-((la+1)+i)=0 by omega]at hT
  have hT:T.find? (fun c=>e8 G (bH c))=none:=hT
  have hx2:=hx2 hT;injection hx2 with hx2 hx3
  injection hx3 with hx3 hx4
  have hx2:z=.n:=hx2;have hx3:X=[]:=hx3;have hx4:b=false:=hx4;subst hx2 hx3 hx4;have hlt':¬(((la+1)+i:Nat):Int)<s.rz.length:=by omega
  generalize (((la+1)+i:Nat):Int)=jj at hlt' ⊢;repeat with_reducible first|refine nz aa ?_|apply ny;simp only[f113,hlt',go_sem];rfl
  exact⟨rfl,rfl,_,rfl,aq rfl⟩
theorem Hl(s:Sty)(hok:s.ok=true)(zg:Z)(G:List (List Nat×List Int))(hzg:zg=.n->G=[])(hG:G.length<=1000)(hR:∀d∈G,d.1.length<=1000)(hk:s.rz.length<=10):∀r,NeedP s zg G r
 |0=>needed_0 s hok zg G hzg hG hR
 |r+1=>fun now hnow hlen=>by
  by_cases h:now=[]
  ·exact Ic s hok zg G r hk (Hl s hok zg G hzg hG hR hk r) now h hnow hlen
  ·exact HR s hok zg G r hk (Hl s hok zg G hzg hG hR hk r) now h hnow hlen
def Hf(T:List (List Nat×List Int))(L:List (List Int)):List (List Nat×List Int):=T.filter fun d=>L.any fun q=>decide (q=d.2)
theorem J1{d:List Nat×List Int}:∀{L:List (List Int)},L.Nodup->(L.filter fun q=>decide (d.2=q)).map (fun _=>d)=if(L.any fun q=>decide (q=d.2))=true then[d]else[]
 |[],_=>by simp
 |q::L,h=>by
  rw[Gc]at h;have ih:=J1 (d:=d) h.2;rw[EZ,GG];by_cases hq:d.2=q
  ·have h0:L.filter (fun q=>decide (d.2=q))=[]:=IR.2 fun x hx hd=>h.1 (by rw[←hq,Eu hd];exact hx)
   rw[DZ (Ej hq),h0,Ej hq.symm,Bool.true_or,DZ rfl];rfl
  ·rw[D5 (by simpa using hq),Ei (fun e=>hq e.symm),IS];exact ih
theorem H9{T:List (List Nat×List Int)}{L:List (List Int)}{i:Nat}{d:List Nat×List Int}(h:T[i]?=some d)(hL:L.Nodup):Hf (T.take (i+1)) L=Hf (T.take i) L++(L.filter fun q=>decide (d.2=q)).map fun _=>d:=by
 rw[J1 hL];unfold Hf;rw[Ev,h,Ft]
 congr 1
 show[d].filter _=_
 rw[EZ,GM]
theorem HY(T:List (List Nat×List Int))(L:List (List Int)):(Hf T L).length<=T.length:=Fh ..
def cfYz:CallF:=aE (aE (aE cf0 93 c93) 49 c49) 29 yD
theorem HT:CallFOk prog cfYz:=ah (ah (ah aa c93_ok) c49_ok) sA
theorem Good_112(s:Sty)(hok:s.ok=true)(hst:s.story=true)(n:Nt)(he:evB n=true):ab prog 112 [.agg s.cells,.agg (ntC n)] [] (.ret (ofV (Hf (fU s.e s.sc s.rl) (jf n s.sc (aX s.e s.sc s.rl))))) []:=by
 refine ab.ofF hTT func112 rfl rfl ?_;have hds:=aS s hok;have hdn:gJ (.agg (ntC n))=some n:=fF n;have hO:=Sty.story_ok hst;have hTn:=gf hO;have hTp:=fO hO;obtain⟨l40,l10⟩:=Ip (n:=n) hst;have hLn:(jf n s.sc (aX s.e s.sc s.rl)).Nodup:=(vD (fG _)).filter _;have hc1:=ap s.sc;have hc2:=ao s.rz;generalize hL:jf n s.sc (aX s.e s.sc s.rl)=L at *;generalize hT:fU s.e s.sc s.rl=T at *;obtain⟨zL,hzL⟩:∃zL,zL=(if decide (L.length=0)=true then Z.n else Z.a):=⟨_,rfl⟩;obtain⟨zT,hzT⟩:∃zT,zT=(if decide (T.length=0)=true then Z.n else Z.a):=⟨_,rfl⟩;have hzLn:zL=.n->L=[]:=fun e=>by
  rw[hzL]at e;split at e
  ·rename_i h;exact Ew.1 (Eu h)
  ·cases e
 have hzTn:zT=.n->T=[]:=fun e=>by
  rw[hzT]at e;split at e
  ·rename_i h;exact Ew.1 (Eu h)
  ·cases e
 have hpL:kT L=.sl zL (L.map slx):=by rw[hzL];rfl
 have hpT:ofV T=.sl zT (T.map ddV):=by rw[hzT];rfl
 clear hzL hzT;have hcL:=aC L;have hcT:=cr T;have hls:bD 5 (L.map slx)=true:=ae 5 _ hcL;have hlt2:bD 5 (T.map ddV)=true:=ae 5 _ hcT;have hls2:=fun D=>ae 5 _ (cr D)
 obtain⟨W,hW⟩:∃W:Nat->List (List Nat×List Int),W=fun i=>Hf (T.take i) L:=⟨_,rfl⟩
 have hWe:W T.length=Hf T L:=by rw[hW];show Hf (T.take T.length) L=_;rw[Eg]
 have hWs:∀i d,T[i]?=some d->W (i+1)=W i++(L.filter fun q=>decide (d.2=q)).map fun _=>d:=fun i d h=>by rw[hW];exact H9 h hLn
 have hWl:∀i,(W i).length<=40:=fun i=>by
  rw[hW];refine Em (HY _ _) ?_;rw[En];omega
 rw[←hWe];repeat with_reducible first|refine nz HT ?_|apply ny;simp only[f112,cfYz,c93,c49,hds,hdn,hst,he,hL,hT,hpL,hpT,hc1,hc2,hcL,hcT,go_sem];rfl
 refine am.keep [8,7,6,5,4,3,2] (by simp only[go_sem];rfl) ?_
 refine am.nilRow 7 139 2 (by simp only[go_sem]) (by simp only[go_sem];rfl) (by simp only[go_sem];rfl) ?_
 refine am.loop (fun i s'=>s'=⟨[(8,ii (i:Int)),(7,.ms 4 (W i).length),(6,.sl zL (L.map slx)),(5,.sl zT (T.map ddV)),(4,.sl .n []),(3,.bp 1 0),(2,.bp 0 0)],45,[.var s.cells false,.var (ntC n) false,.dead,.dead,.row (decide ((W i).length=0)) 139 2 ((W i).map ddV) false]⟩) T.length (by rw[show W 0=[]by rw[hW];rfl];first|(simp only[go_sem];first|done|rfl)|rfl) ?_
 rintro i _ hi rfl;by_cases hlt:i<T.length
 ·obtain⟨d,hd⟩:=gex hlt
  have hd':(T.map ddV)[i]?=some (.agg [.sl .a ((bH d.1).map ii),.sl .a (d.2.map ii)]):=aw hd;have hlt':(i:Int)<T.length:=by omega
  have hzT':zT≠.n:=fun e=>by rw[hzTn e]at hlt;simp at hlt
  have e4:=wIs i (by omega)
  have hst2:=hWs i d hd;have hUl:=hWl i;have hUl2:=hWl (i+1);have hdp:=(hTp d (DU hd)).1;have hdv:ddV d=.agg [.sl .a ((bH d.1).map ii),.sl .a (d.2.map ii)]:=rfl;have hdi:aN (.sl .a (d.2.map ii))=some d.2:=aI rfl;have hdm:d.2.length<=maxLen:=by unfold maxLen;omega
  have hcd:=ac d.2;have hcr:=ac (bH d.1);generalize hW1:W (i+1)=W1 at hst2 hUl2;generalize W i=U at hst2 hUl ⊢;obtain⟨V,hV⟩:∃V:Nat->List (List Nat×List Int),V=fun k=>U++((L.take k).filter fun q=>decide (d.2=q)).map fun _=>d:=⟨_,rfl⟩
  have hVe:V L.length=W1:=by rw[hV,hst2];show U++((L.take L.length).filter _).map _=_;rw[Eg]
  have hV0:V 0=U:=by rw[hV];simp
  have hVs:∀k q,L[k]?=some q->V (k+1)=V k++if d.2=q then[d]else[]:=fun k q h=>by
   rw[hV];show U++((L.take (k+1)).filter _).map _=U++((L.take k).filter _).map _++_;rw[Ev,h,Ft,Ec,Et]
   congr 2
   show([q].filter _).map _=_
   rw[EZ,GM];by_cases hq:d.2=q <;> simp[hq]
  have hVl:∀k,k<=L.length->(V k).length<=40:=fun k hk=>by
   rw[←hVe,hV]at hUl2;rw[hV];have h1:((L.take k).filter fun q=>decide (d.2=q)).length<=((L.take L.length).filter fun q=>decide (d.2=q)).length:=by
    rw[Eg];exact((List.take_sublist k L).filter _).length_le
   simp only[Ea,DX]at hUl2 ⊢;omega
  clear hV hst2;rw[←hV0];repeat with_reducible first|refine nz aa ?_|apply ny;simp only[f112,hlt',go_sem];rfl
  refine am.keep [9,8,7,6,5,4,3,2] (by simp only[go_sem];rfl) ?_
  refine am.loop (fun k s'=>s'=⟨[(9,ii (k:Int)),(8,ii (i:Int)),(7,.ms 4 (V k).length),(6,.sl zL (L.map slx)),(5,.sl zT (T.map ddV)),(4,.sl .n []),(3,.bp 1 0),(2,.bp 0 0)],45,[.var s.cells false,.var (ntC n) false,.dead,.dead,.row (decide ((V k).length=0)) 139 2 ((V k).map ddV) false]⟩) L.length (by first|(simp only[go_sem];first|done|rfl)|rfl) ?_
  rintro k _ hk rfl;by_cases hlk:k<L.length
  ·obtain⟨q,hq⟩:=gex hlk
   have hq':(L.map slx)[k]?=some (.sl .a (q.map ii)):=aw hq;have hlk':(k:Int)<L.length:=by omega
   have hzL':zL≠.n:=fun e=>by rw[hzLn e]at hlk;simp at hlk
   have hqi:aN (.sl .a (q.map ii))=some q:=aI rfl;have hcq:=ac q;have e5:=wIs k (by omega)
   have hst3:=hVs k q hq;have hVn:=hVl k hk;generalize V k=U at hst3 hVn ⊢;have l1:U.length+1<=maxLen:=by unfold maxLen;omega
   have l2:(U.length+1)*48<=140737488355328:=by omega
   have hd1:decide (U.length+1=0)=false:=by simp
   by_cases hdq:d.2=q
   ·have hdq':decide (d.2=q)=true:=Ej hdq
    rw[DZ hdq]at hst3;repeat with_reducible first|refine nz HT ?_|apply ny;simp only[f112,cfYz,yD,hd',hq',hlt',hlk',hzT',hzL',hdi,hqi,hdm,hdq',hcd,hcr,hcq,e5,l1,l2,go_sem];rfl
    refine ak.t 5 [9,8,7,6,5,4,3,2] hlk (by simp only[aA,aF,an,az,bJ,hls,hlt2,hls2,go_sem]) (by rw[hst3,Ec,Ea];first|(simp only[hd1,hdv,go_sem];first|done|rfl)|rfl)
   ·have hdq':decide (d.2=q)=false:=Ei hdq
    rw[D5 hdq,Er]at hst3;repeat with_reducible first|refine nz HT ?_|apply ny;simp only[f112,cfYz,yD,hd',hq',hlt',hlk',hzT',hzL',hdi,hqi,hdm,hdq',hcd,hcr,hcq,e5,l1,l2,go_sem];rfl
    refine ak.t 5 [9,8,7,6,5,4,3,2] hlk (by simp only[aA,aF,an,az,bJ,hls,hlt2,hls2,go_sem]) (by rw[hst3];first|(simp only[go_sem];first|done|rfl)|rfl)
  ·obtain rfl:k=L.length:=by omega
   have hlk':¬(L.length:Int)<L.length:=by omega
   rw[hVe];repeat with_reducible first|refine nz aa ?_|apply ny;simp only[f112,hlk',e4,go_sem];rfl
   refine ak.t 5 [8,7,6,5,4,3,2] hlt (by simp only[aA,aF,an,az,hls,hlt2,hls2,go_sem]) (by rw[hW1];first|(simp only[go_sem];first|done|rfl)|rfl)
 ·obtain rfl:i=T.length:=by omega
  have hlt':¬(T.length:Int)<T.length:=by omega
  generalize W T.length=U;repeat with_reducible first|refine nz aa ?_|apply ny;simp only[f112,hlt',go_sem];rfl
  exact⟨rfl,rfl,_,rfl,leave_row (id:=4) rfl (cr _) (by rw[DX])⟩
def c112:Tb_
 |[v,w],sg=>match cS v,gJ w with
  |some s,some n=>if s.story=true∧evB n=true then some (.ret (ofV (Hf (fU s.e s.sc s.rl) (jf n s.sc (aX s.e s.sc s.rl)))),sg)else none
  |_,_=>none
 |_,_=>none
theorem c112_ok:al prog 112 c112:=al.of0 (ent func112 rfl) fun args sg r sg' h=>by
 unfold c112 at h;split at h <;> try (cases h;done)
 split at h <;> try (cases h;done)
 rename_i s n h1 h2;split at h <;> cases h
 rename_i hc;obtain⟨rfl,hok⟩:=aM h1;obtain rfl:=dz h2;exact⟨_,rfl,rfl,by rw[af,af,cm];rfl,Good_112 s hok hc.1 n hc.2⟩
def cfZb:CallF:=aE cf0 112 c112
theorem Ii:CallFOk prog cfZb:=ah aa c112_ok
abbrev JE(s:Sty)(n:Nt):List (List Nat×List Int):=Hf (fU s.e s.sc s.rl) (jf n s.sc (aX s.e s.sc s.rl))
theorem HM{s:Sty}(n:Nt)(hst:s.story=true):(JE s n).length<=40∧(∀d∈JE s n,d.1.length<=60):=by
 have hO:=Sty.story_ok hst;exact⟨Em (HY _ _) (gf hO),fun d hd=>(G8 hO d (Gd.1 hd).1).1⟩
theorem Ih(s:Sty)(hok:s.ok=true)(hst:s.story=true)(n:Nt)(he:evB n=true){x:List Nat}(hx:(HZ s.rz.length).find? (fun c=>e8 (JE s n) (bH c))=some x):
 ab prog 52 [.agg s.cells,.agg (ntC n)] [] (.ret (.tuple [slc x,.bool true])) []:=by
 refine ab.ofF hTT func52 rfl rfl ?_;have hds:=aS s hok;have hdn:gJ (.agg (ntC n))=some n:=fF n;have hc1:=ap s.sc;have hc2:=ao s.rz;have hk10:s.rz.length<=10:=by have:=(Sty.story_ok hst).r10;have:=s.rl_len;omega
 obtain⟨g40,g60⟩:=HM n hst;have hG:JE s n=Hf (fU s.e s.sc s.rl) (jf n s.sc (aX s.e s.sc s.rl)):=rfl;generalize JE s n=G at *;obtain⟨zg,hzg⟩:∃zg,zg=(if decide (G.length=0)=true then Z.n else Z.a):=⟨_,rfl⟩;have hzn:zg=.n->G=[]:=fun e=>by
  rw[hzg]at e;split at e
  ·rename_i h;exact Ew.1 (Eu h)
  ·cases e
 have hGV:ofV (Hf (fU s.e s.sc s.rl) (jf n s.sc (aX s.e s.sc s.rl)))=.sl zg (G.map ddV):=by rw[←hG,hzg];rfl
 have hcG:=cr G;have hrec:∀m,m<=s.rz.length->∃z X b,E0 ((c7 s.rz.length m 0).find? fun c=>e8 G (bH c)) z X b∧ab prog 113 [.agg s.cells,.sl zg (G.map ddV),.sl .n [],ii (m:Int)] [] (.ret (.tuple [.sl z (X.map ii),.bool b])) []:=fun m hm=>by
  have:=Hl s hok zg G hzn (by omega) (fun d hd=>by have:=g60 d hd;omega) hk10 m [] (fun x hx=>by cases hx) (by simp;omega)
  rw[H7,ET,EG]at this;exact this
 have hcx:=kp x;repeat with_reducible first|refine nz Ii ?_|apply ny;simp only[f52,cfZb,c112,hds,hdn,hst,he,hGV,hc1,hc2,hcG,go_sem];rfl
 refine am.keep [7,6,5,4,3,2] (by simp only[go_sem];rfl) ?_
 refine am.loop (fun i s'=>((List.range' i (s.rz.length+1-i)).flatMap fun m=>c7 s.rz.length m 0).find? (fun c=>e8 G (bH c))=some x∧s'=⟨[(7,ii (i:Int)),(6,.sl zg (G.map ddV)),(5,.bool false),(4,.sl .n []),(3,.bp 1 0),(2,.bp 0 0)],29,[.var s.cells false,.var (ntC n) false]⟩) (s.rz.length+1) ⟨by
  have e:HZ s.rz.length=(List.range' 0 (s.rz.length+1-0)).flatMap fun m=>c7 s.rz.length m 0:=by unfold HZ;rw[F6];rfl
  rw[←e];exact hx,by first|(simp only[go_sem];first|done|rfl)|rfl⟩ ?_
 rintro i _ hi ⟨hF,rfl⟩;by_cases hlt:i<s.rz.length+1
 ·have hle:(i:Int)<=s.rz.length:=by omega
  have e4:=wIs i (by omega)
  obtain⟨z,X,b,hF1,hre⟩:=hrec i (by omega)
  rw[show s.rz.length+1-i=(s.rz.length+1-(i+1))+1 by omega,Fd,E2,List.find?_append]at hF
  have hcX:=ac X;have hltb:bD 0 [PV.agg s.cells,.sl zg (G.map ddV),.sl .n [],ii (i:Int)]=true:=ae 0 _ (by simp[Sty.cells,ad,PV.closed,hc1,hc2,hcG])
  cases b with
  |false =>
   have hF2:(c7 s.rz.length i 0).find? (fun c=>e8 G (bH c))=none:=by
    cases hf:(c7 s.rz.length i 0).find? fun c=>e8 G (bH c)with
    |none=>rfl
    |some c=>rw[hf]at hF1;cases hF1.2.1
   rw[hF2,Option.none_or]at hF;repeat with_reducible first|refine nz (aj aa (ent func113 rfl) hre hltb) ?_|apply ny;simp only[f52,eA,hle,e4,hc1,hc2,hcG,hcX,go_sem];rfl
   refine ak.t 2 [7,6,5,4,3,2] hlt (by simp only[aA,az,an,aF,ae _ _ hcG,go_sem]) ⟨hF,by first|(simp only[go_sem];first|done|rfl)|rfl⟩
  |true =>
   obtain⟨hz1,hF2⟩:=hF1;cases hf:(c7 s.rz.length i 0).find? fun c=>e8 G (bH c)with
   |none=>rw[hf]at hF2;cases hF2
   |some c =>
    rw[hf]at hF2 hF;obtain rfl:c=x:=Option.some.inj hF;have hV:PV.sl z (X.map ii)=slc c:=hF2.2;rw[hV]at hre;generalize hsv:slc c=V at hre hcx ⊢;obtain⟨zc,ec,rfl⟩:∃z e,V=.sl z e:=⟨_,_,hsv.symm⟩;have hce:ad ec=true:=hcx;repeat with_reducible first|refine nz (aj aa (ent func113 rfl) hre hltb) ?_|apply ny;simp only[f52,eA,hle,e4,hc1,hc2,hcG,hce,go_sem];rfl
    exact⟨rfl,rfl,_,rfl,aq (v:=.tuple [.sl zc ec,.bool true]) (by simp[PV.closed,ad,hce])⟩
 ·rw[show s.rz.length+1-i=0 by omega]at hF
  cases hF
def Hu(k i:Nat)(G:List (List Nat×List Int)):List Int:=bH ((List.range i).filter fun r=>!e8 G (bH ((List.range k).filter fun j=>decide (j≠r))))
theorem Ig{k i:Nat}(G:List (List Nat×List Int)):Hu k (i+1) G=Hu k i G++(if e8 G (bH ((List.range k).filter fun j=>decide (j≠i)))=true then[]else[(i:Int)]):=by
 unfold Hu bH;rw[IU,Ft,Ec]
 congr 1
 rw[EZ,GM];cases e8 G (List.map Int.ofNat ((List.range k).filter fun j=>decide (j≠i))) <;> rfl
theorem H0(k i:Nat)(G:List (List Nat×List Int)):(Hu k i G).length<=i:=by
 unfold Hu bH;rw[DX];exact Em (Fh ..) (by simp)
theorem Ib(s:Sty)(hok:s.ok=true)(hst:s.story=true)(n:Nt)(he:evB n=true):ab prog 53 [.agg s.cells,.agg (ntC n)] [] (.ret (isV (Hu s.rz.length s.rz.length (JE s n)))) []:=by
 refine ab.ofF hTT func53 rfl rfl ?_;have hds:=aS s hok;have hdn:gJ (.agg (ntC n))=some n:=fF n;have hc1:=ap s.sc;have hc2:=ao s.rz;have hk10:s.rz.length<=10:=by have:=(Sty.story_ok hst).r10;have:=s.rl_len;omega
 obtain⟨g40,g60⟩:=HM n hst;have hG:JE s n=Hf (fU s.e s.sc s.rl) (jf n s.sc (aX s.e s.sc s.rl)):=rfl;generalize JE s n=G at *;obtain⟨zg,hzg⟩:∃zg,zg=(if decide (G.length=0)=true then Z.n else Z.a):=⟨_,rfl⟩;have hzn:zg=.n->G=[]:=fun e=>by
  rw[hzg]at e;split at e
  ·rename_i h;exact Ew.1 (Eu h)
  ·cases e
 have hGV:ofV (Hf (fU s.e s.sc s.rl) (jf n s.sc (aX s.e s.sc s.rl)))=.sl zg (G.map ddV):=by rw[←hG,hzg];rfl
 have hcG:=cr G;have hlg:bD 3 (G.map ddV)=true:=ae 3 _ hcG;have hlg4:bD 4 (G.map ddV)=true:=ae 4 _ hcG;repeat with_reducible first|refine nz Ii ?_|apply ny;simp only[f53,cfZb,c112,hds,hdn,hst,he,hGV,hc1,hc2,hcG,go_sem];rfl
 refine am.keep [7,6,5,4,3,2] (by simp only[go_sem];rfl) ?_
 refine am.nilRow 6 3 1 (by simp only[go_sem]) (by simp only[go_sem];rfl) (by simp only[go_sem];rfl) ?_
 refine am.loop (fun i s'=>s'=⟨[(7,ii (i:Int)),(6,.ms 2 (Hu s.rz.length i G).length),(5,.sl zg (G.map ddV)),(4,.sl .n []),(3,.bp 1 0),(2,.bp 0 0)],43,[.var s.cells false,.var (ntC n) false,.row (decide ((Hu s.rz.length i G).length=0)) 3 1 ((Hu s.rz.length i G).map ii) false]⟩) s.rz.length (by first|(simp only[go_sem];first|done|rfl)|rfl) ?_
 rintro i _ hi rfl;have hMl:=H0 s.rz.length i G;by_cases hlt:i<s.rz.length
 ·have hlt':(i:Int)<s.rz.length:=by omega
  have e4:=wIs i (by omega)
  have hst2:=Ig (k:=s.rz.length) (i:=i) G;rw[show bH ((List.range s.rz.length).filter fun j=>decide (j≠i))=Ik s.rz.length i from rfl]at hst2
  generalize hU1:Hu s.rz.length (i+1) G=U1 at hst2;generalize Hu s.rz.length i G=U at hst2 hMl ⊢;repeat with_reducible first|refine nz aa ?_|apply ny;simp only[f53,hlt',go_sem];rfl
  refine am.keep [9,8,7,6,5,4,3,2] (by simp only[go_sem];rfl) ?_
  refine am.nilRow 8 3 1 (by simp only[go_sem]) (by simp only[go_sem];rfl) (by simp only[go_sem];rfl) ?_
  refine am.loop (fun k s'=>s'=⟨[(9,ii (k:Int)),(8,.ms 3 (Ik k i).length),(7,ii (i:Int)),(6,.ms 2 U.length),(5,.sl zg (G.map ddV)),(4,.sl .n []),(3,.bp 1 0),(2,.bp 0 0)],43,[.var s.cells false,.var (ntC n) false,.row (decide (U.length=0)) 3 1 (U.map ii) false,.row (decide ((Ik k i).length=0)) 3 1 ((Ik k i).map ii) false]⟩) s.rz.length (by first|(simp only[go_sem];first|done|rfl)|rfl) ?_
  rintro k _ hk rfl;have hBl:=JT k i;by_cases hlk:k<s.rz.length
  ·have hlk':(k:Int)<s.rz.length:=by omega
   have e5:=wIs k (by omega)
   have hst3:=IB k i;generalize Ik k i=B at hst3 hBl ⊢;have l1:B.length+1<=maxLen:=by unfold maxLen;omega
   have l2:(B.length+1)*8<=140737488355328:=by omega
   have hd1:decide (B.length+1=0)=false:=by simp
   by_cases hki:k=i
   ·have hki':((k:Int) != (i:Int))=false:=by rw[hki];simp
    rw[DZ hki,Er]at hst3;repeat with_reducible first|refine nz aa ?_|apply ny;simp only[f53,hlk',hki',e5,l1,l2,go_sem];rfl
    refine ak.t 4 [9,8,7,6,5,4,3,2] hlk (by simp only[aA,aF,an,az,bJ,hlg4,go_sem]) (by rw[hst3];first|(simp only[go_sem];first|done|rfl)|rfl)
   ·have hki':((k:Int) != (i:Int))=true:=eC (by omega)
    rw[D5 hki]at hst3;repeat with_reducible first|refine nz aa ?_|apply ny;simp only[f53,hlk',hki',e5,l1,l2,go_sem];rfl
    refine ak.t 4 [9,8,7,6,5,4,3,2] hlk (by simp only[aA,aF,an,az,bJ,hlg4,go_sem]) (by rw[hst3,Ec,Ea];first|(simp only[hd1,go_sem];first|done|rfl)|rfl)
  ·obtain rfl:k=s.rz.length:=by omega
   have hlk':¬(s.rz.length:Int)<s.rz.length:=by omega
   generalize Ik s.rz.length i=B at hst2 hBl ⊢;repeat with_reducible first|(fail_if_success refine am.seq (x:=.region 12 _ _) ?_);(fail_if_success show am _ (.region 12 _ _) _ _);refine nz aa ?_|apply ny;simp only[f53,hlk',go_sem];rfl
   obtain⟨zB,hzB⟩:∃zB:Z,zB=(if decide (B.length=0)=true then .n else .a):=⟨_,rfl⟩;have hzBn:zOk zB (B.map ii)=true:=by
    rw[hzB];cases B <;> rfl
   have hcB:=ac B;have hf:=H3 zg G zB B hzn hzBn (by omega) (by omega) (fun d hd=>by have:=g60 d hd;omega)
   have hltb:bD 0 [PV.sl zg (G.map ddV),.sl zB (B.map ii)]=true:=ae 0 _ (by simp[ad,PV.closed,hcG,hcB])
   refine am.keep [8,7,6,5,4,3,2] (by simp only[go_sem];rfl) ?_
   refine am.freezeZ (tm':=[(8,.sl zB (B.map ii)),(7,ii (i:Int)),(6,.ms 2 U.length),(5,.sl zg (G.map ddV)),(4,.sl .n []),(3,.bp 1 0),(2,.bp 0 0)]) (sg':=[.var s.cells false,.var (ntC n) false,.row (decide (U.length=0)) 3 1 (U.map ii) false,.row (decide (B.length=0)) 3 1 (B.map ii) true]) 8 3 rfl rfl (by rw[DX]) hcB rfl (by rw[hzB];rfl) ?_
   clear hzB;have l1:U.length+1<=maxLen:=by unfold maxLen;omega
   have l2:(U.length+1)*8<=140737488355328:=by omega
   have hd1:decide (U.length+1=0)=false:=by simp
   cases hc:e8 G B
   ·rw[hc]at hst2 hf
    repeat with_reducible first|refine nz (aj aa (ent func114 rfl) hf hltb) ?_|apply ny;simp only[f53,eA,hlk',e4,l1,l2,hcG,hcB,go_sem];rfl
    refine ak.t 3 [7,6,5,4,3,2] hlt (by simp only[aA,aF,an,az,bJ,hlg,go_sem]) (by rw[hU1,hst2];first|(simp only[hd1,Ec,go_sem];first|done|rfl)|rfl)
   ·rw[hc]at hst2 hf
    repeat with_reducible first|refine nz (aj aa (ent func114 rfl) hf hltb) ?_|apply ny;simp only[f53,eA,hlk',e4,l1,l2,hcG,hcB,go_sem];rfl
    refine ak.t 3 [7,6,5,4,3,2] hlt (by simp only[aA,aF,an,az,bJ,hlg,go_sem]) (by rw[hU1,hst2];first|(simp only[hd1,Ec,Er,go_sem];first|done|rfl)|rfl)
 ·obtain rfl:i=s.rz.length:=by omega
  have hlt':¬(s.rz.length:Int)<s.rz.length:=by omega
  have hiV:∀U:List Int,isV U=.sl (if decide (U.length=0)=true then .n else .a) (U.map ii):=fun U=>by unfold isV;by_cases h:U.length=0 <;> simp[h]
  rw[hiV];repeat with_reducible first|refine nz aa ?_|apply ny;simp only[f53,hlt',go_sem];rfl
  exact⟨rfl,rfl,_,rfl,leave_row (id:=2) rfl (ac _) (by rw[DX])⟩
end Go.Pv
