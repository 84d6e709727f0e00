import Derived.Test.YtkahmnpcfghpiaaGreatQzLeft
set_option linter.all false
open Go.Proofs.Tryz
namespace Go.Pv
open Go Go.RowKit Go.Proofs
set_option maxRecDepth 200000
set_option maxHeartbeats 8000000
def Bk.at'(b:Bk)(n:Int):Ve:=b.vs.getD n.toNat (.n,[])
def cplR(b:Bk)(n:Int)(l:List Int):PV:=if(bkB b&&inB n 0 ((b.vs.length:Int)-1)&&cusB b l)=true then .tuple [.sl (emZ l) ((dj (b.at' n) l).map ii),ii 0]else .tuple [.sl .n [],ii 2]
theorem Lf{b:Bk}{l:List Int}(h:cusB b l=true):l.length<=8∧∀x∈l,0<=x∧x<b.cues:=by
 unfold cusB at h;rw[D3,D7]at h;refine⟨Eu h.1,fun x hx=>?_⟩
 have:=bm.1 (h.2 x hx)
 omega
theorem Plays_19(b:Bk)(hok:b.ok=true)(n:Int)(z:Z)(l:List Int)(hz:zOk z (l.map ii)=true):ab prog 19 [.agg b.cells,ii n,.sl z (l.map ii)] [] (.ret (cplR b n l)) []:=by
 refine ab.ofF hTT func19 rfl rfl ?_;unfold cplR;have h53:=zt b hok;have hbt:bD 0 [PV.agg b.cells]=true:=ae 0 _ (by simp[ad,PV.closed,bh])
 cases hB:bkB b
 ·rw[hB]at h53
  rw[D5 (by simp)]
  repeat with_reducible first|refine nz (aj aa (ent func53 rfl) h53 hbt) ?_|apply ny;simp only[f19,eA,go_sem];rfl
  exact⟨rfl,rfl,_,rfl,aq rfl⟩
 rw[hB]at h53;have hbn:=Bk.num hB;have h54:=FY b n (by omega)
 have hb4:bD 0 [PV.agg b.cells,ii n]=true:=ae 0 _ (by simp[ad,PV.closed,bh])
 cases hN:inB n 0 ((b.vs.length:Int)-1)
 ·rw[hN]at h54
  rw[D5 (by simp)]
  repeat with_reducible first|refine nz (aj (aj aa (ent func54 rfl) h54 hb4) (ent func53 rfl) h53 hbt) ?_|apply ny;simp only[f19,eA,go_sem];rfl
  exact⟨rfl,rfl,_,rfl,aq rfl⟩
 rw[hN]at h54;have h55:=sm b z l hz (by omega)
 have hb5:bD 0 [PV.agg b.cells,.sl z (l.map ii)]=true:=ae 0 _ (by simp[ad,PV.closed,bh,ac])
 cases hC:cusB b l
 ·rw[hC]at h55
  rw[D5 (by simp)]
  repeat with_reducible first|refine nz (aj (aj (aj aa (ent func55 rfl) h55 hb5) (ent func54 rfl) h54 hb4) (ent func53 rfl) h53 hbt) ?_|apply ny;simp only[f19,eA,go_sem];rfl
  exact⟨rfl,rfl,_,rfl,aq rfl⟩
 rw[hC]at h55;rw[DZ (by simp)]
 have hn:=bm.1 hN;obtain⟨k,rfl⟩:∃k:Nat,n=(k:Int):=⟨n.toNat,by omega⟩
 have hk:k<b.vs.length:=by omega
 obtain⟨v,hv⟩:=gex hk;have hat:b.at' k=v:=by unfold Bk.at';rw[Int.toNat_natCast,Ep,hv];rfl
 have hv':(b.vs.map d6)[k]?=some (.agg [.sl v.1 (v.2.map b0)]):=aw hv;have hvm:=DU hv;have hs:=Bk.ok_s hok hvm;have hci:=Lf hC;have h56:ab prog 56 [.agg [.sl v.1 (v.2.map b0)],.sl z (l.map ii)] [] (.ret (.tuple [.sl (emZ l) ((dj v l).map ii),.agg [.sl v.1 (v.2.map b0),ii ((hQ v.sts 0 (l.map Int.toNat)).2:Int)]])) [] :=
  zx v z l b.cues b.tunes hs.1 hs.2 (fun e=>bd hz e) (Bk.ver hB hvm) hci.2 (by omega)
 have hb6:bD 0 [PV.agg [.sl v.1 (v.2.map b0)],.sl z (l.map ii)]=true:=ae 0 _ (by simp[ad,PV.closed,cc,ac])
 have hk':(k:Int)<b.vs.length:=by omega
 have hz':b.zv≠.n:=fun e=>by rw[bd (Bk.ok_v hok) e]at hk;simp at hk
 have hcs:=cc v.2;have hcp:=ac (dj v l);rw[hat];repeat with_reducible first|refine nz (aj (aj (aj (aj aa (ent func56 rfl) h56 hb6) (ent func55 rfl) h55 hb5) (ent func54 rfl) h54 hb4) (ent func53 rfl) h53 hbt) ?_|apply ny;simp only[f19,eA,hv',hk',hz',hcs,go_sem];rfl
 exact⟨rfl,rfl,_,rfl,aq (v:=.tuple [.sl (emZ l) ((dj v l).map ii),ii 0]) (by simp[PV.closed,ad,hcp])⟩
def upK(out t:List Int)(k:Nat):List Int:=out.mapIdx fun i x=>if i<k∧t.getD i 0≠x then -1 else x
theorem K6(out t:List Int)(k:Nat):(upK out t k).length=out.length:=by unfold upK;simp
theorem upK_zero(out t:List Int):upK out t 0=out:=by
 unfold upK;apply E6;intro i;rw[List.getElem?_mapIdx];cases out[i]? <;> simp
theorem upK_full(out t:List Int)(k:Nat)(h:out.length<=k):upK out t k=out.mapIdx fun i x=>if t.getD i 0≠x then -1 else x:=by
 unfold upK;apply E6;intro i;rw[List.getElem?_mapIdx,List.getElem?_mapIdx];cases hx:out[i]? with
 |none=>rfl
 |some x =>
  have:=(DR.1 hx).1
  have hi:i<k:=by omega
  simp only[F3,hi,true_and]
theorem upK_get{out t:List Int}{k:Nat}{x:Int}(h:out[k]?=some x):(upK out t k)[k]?=some x:=by
 unfold upK;rw[List.getElem?_mapIdx,h];simp
theorem upK_ne{out t:List Int}{k:Nat}{x:Int}(h:out[k]?=some x)(hne:t.getD k 0≠x):upK out t (k+1)=(upK out t k).set k (-1):=by
 apply E6;intro i;by_cases hi:k=i
 ·subst hi
  have hk:=(DR.1 h).1;rw[D4 (by rw[K6];exact hk)]
  unfold upK;rw[List.getElem?_mapIdx,h];simp only[F3,FG,true_and];rw[DZ hne]
 ·rw[D8 hi]
  unfold upK;rw[List.getElem?_mapIdx,List.getElem?_mapIdx];have:(i<k+1)=(i<k):=by apply propext;omega
  simp only[this]
theorem upK_eq{out t:List Int}{k:Nat}{x:Int}(h:out[k]?=some x)(he:t.getD k 0=x):upK out t (k+1)=upK out t k:=by
 apply E6;intro i;unfold upK;rw[List.getElem?_mapIdx,List.getElem?_mapIdx];by_cases hi:i=k
 ·subst hi
  rw[h];have he':t[i]?.getD 0=x:=by rw[←Ep];exact he
  simp[he']
 ·have:(i<k+1)=(i<k):=by apply propext;omega
  simp only[this]
theorem D0:∀(r:List (List Int)) (out t:List Int),vR out (r++[t])=(vR out r).mapIdx fun k x=>if t.getD k 0≠x then -1 else x
 |[],_,_=>rfl
 |_::r,_,_=>D0 r _ _
def KM(b:Bk)(l:List Int):List Int:=vR (dj (b.at' 0) l) (b.vs.map fun v=>dj v l)
def Ki(b:Bk)(l:List Int)(i:Nat):List Int:=vR (dj (b.at' 0) l) ((b.vs.take i).map fun v=>dj v l)
theorem x0(b:Bk)(l:List Int)(i:Nat):(Ki b l i).length=l.length:=by unfold Ki;rw[x6,lz]
theorem J5{b:Bk}{l:List Int}{i:Nat}{v:Ve}(h:b.vs[i]?=some v):Ki b l (i+1)=upK (Ki b l i) (dj v l) l.length:=by
 rw[upK_full _ _ _ (by rw[x0];exact DS _)]
 unfold Ki;rw[Ev,h,Ec];exact D0 ..
theorem surK_one{b:Bk}{l:List Int}{v:Ve}(h:b.vs[0]?=some v):Ki b l 1=dj v l:=by
 have h0:Ki b l 0=dj v l:=by
  unfold Ki Bk.at';rw[Ep];show vR (dj ((b.vs[0]?).getD (.n,[])) l) []=_;rw[h];rfl
 rw[J5 h,h0];unfold upK;apply E6;intro i;rw[List.getElem?_mapIdx];cases hx:(dj v l)[i]? with
 |none=>rfl
 |some x =>
  simp[hx]
theorem Kv(b:Bk)(l:List Int):Ki b l b.vs.length=KM b l:=by unfold Ki KM;rw[Eg]
def csuR(b:Bk)(l:List Int):PV:=if(bkB b&&cusB b l)=true then .tuple [.sl (emZ l) ((KM b l).map ii),ii 0]else .tuple [.sl .n [],ii 2]
theorem J7{n i:Nat}(h:i<n):(f9 n)[i]?=some (i:Int):=by unfold f9;rw[Eh,List.getElem?_range h];rfl
theorem Sure_21(b:Bk)(hok:b.ok=true)(z:Z)(l:List Int)(hz:zOk z (l.map ii)=true):ab prog 21 [.agg b.cells,.sl .n [],.sl z (l.map ii)] [] (.ret (csuR b l)) []:=by
 refine ab.ofF hTT func21 rfl rfl ?_;unfold csuR;have h53:=zt b hok;have hbt:bD 0 [PV.agg b.cells]=true:=ae 0 _ (by simp[ad,PV.closed,bh])
 have hb7:∀f:Bool,bD 0 [PV.agg b.cells,.bool f,.sl .n [],.agg [.sl .n [],.sl .n []]]=true:=fun f=>ae 0 _ (by simp[ad,PV.closed,bh])
 have hcv:=bh b.vs;have hcl:=ac l;have n00:((0:Int) != 0)=false:=rfl;have n20:((2:Int) != 0)=true:=rfl;cases hB:bkB b
 ·have h57:ab prog 57 [.agg b.cells,.bool false,.sl .n [],.agg [.sl .n [],.sl .n []]] [] (.ret (.tuple [.sl .n [],ii 2])) []:=by
   have:=Km b hok false
   rw[hB,D5 (by simp)]at this
   exact this
  rw[hB]at h53;rw[D5 (by simp)]
  repeat with_reducible first|refine nz (aj (aj aa (ent func57 rfl) h57 (hb7 _)) (ent func53 rfl) h53 hbt) ?_|apply ny;simp only[f21,eA,hcv,hcl,n20,go_sem];rfl
  exact⟨rfl,rfl,_,rfl,aq rfl⟩
 rw[hB]at h53;have hbn:=Bk.num hB;have h55:=sm b z l hz (by omega)
 have hb5:bD 0 [PV.agg b.cells,.sl z (l.map ii)]=true:=ae 0 _ (by simp[ad,PV.closed,bh,ac])
 cases hC:cusB b l
 ·have h57:ab prog 57 [.agg b.cells,.bool false,.sl .n [],.agg [.sl .n [],.sl .n []]] [] (.ret (.tuple [.sl .n [],ii 2])) []:=by
   have:=Km b hok false
   rw[D5 (by simp)]at this
   exact this
  rw[hC]at h55;rw[D5 (by simp)]
  repeat with_reducible first|refine nz (aj (aj (aj aa (ent func57 rfl) h57 (hb7 _)) (ent func55 rfl) h55 hb5) (ent func53 rfl) h53 hbt) ?_|apply ny;simp only[f21,eA,hcv,hcl,n20,go_sem];rfl
  exact⟨rfl,rfl,_,rfl,aq rfl⟩
 rw[hC]at h55;rw[DZ (by simp)]
 have h57:ab prog 57 [.agg b.cells,.bool true,.sl .n [],.agg [.sl .n [],.sl .n []]] [] (.ret (.tuple [.sl .a ((f9 b.vs.length).map ii),ii 0])) []:=by
  have:=Km b hok true
  rw[hB,DZ (by simp)]at this
  exact this
 have hcn:=ac (f9 b.vs.length);have hnl:((f9 b.vs.length).map ii).length=b.vs.length:=by rw[DX,q4]
 have hci:=Lf hC;repeat with_reducible first|refine nz (aj (aj (aj aa (ent func57 rfl) h57 (hb7 _)) (ent func55 rfl) h55 hb5) (ent func53 rfl) h53 hbt) ?_|apply ny;simp only[f21,eA,hcv,hcl,hcn,hnl,n00,go_sem];rfl
 refine am.keep [36,35,34,10,3,2] (by simp only[go_sem];rfl) ?_
 have hvs:∀i,i<b.vs.length->∃v,b.vs[i]?=some v:=fun i h=>⟨_,DT h⟩
 have hz':b.zv≠.n:=fun e=>by
  have:=bd (Bk.ok_v hok) e
  rw[this]at hbn;simp at hbn
 by_cases hl0:l=[]
 ·subst hl0
  have hsur:KM b []=[]:=Ew.1 (by rw[←Kv,x0];rfl)
  rw[hsur];refine am.loop (fun i s'=>s'=⟨[(36,ii (i:Nat)),(35,ii (b.vs.length:Nat)),(34,.sl .a ((f9 b.vs.length).map ii)),(10,.sl .n []),(3,.bp 0 0),(2,.sl z [])],73,[.var b.cells false,.dead,.dead,.dead]⟩) b.vs.length (by first|(simp only[go_sem];first|done|rfl)|rfl) ?_
  rintro i _ hi rfl;by_cases hlt:i<b.vs.length
  ·obtain⟨v,hv⟩:=hvs i hlt
   have hv':(b.vs.map d6)[i]?=some (.agg [.sl v.1 (v.2.map b0)]):=aw hv;have hni:((f9 b.vs.length).map ii)[i]?=some (ii (i:Int)):=aw (J7 hlt);have hvm:=DU hv;have hlt':(i:Int)<b.vs.length:=by omega
   have e4:=wIs i (by omega)
   have hs:=Bk.ok_s hok hvm;have h56:ab prog 56 [.agg [.sl v.1 (v.2.map b0)],.sl z []] [] (.ret (.tuple [.sl .n [],.agg [.sl v.1 (v.2.map b0),ii 0]])) []:=zx v z [] b.cues b.tunes hs.1 hs.2 (fun _=>rfl) (Bk.ver hB hvm) (fun x hx=>by cases hx) (by simp)
   have hb6:bD 0 [PV.agg [.sl v.1 (v.2.map b0)],.sl z []]=true:=ae 0 _ (by simp[ad,PV.closed,cc])
   have hcs:=cc v.2;obtain⟨c,hi0⟩:∃c,((i:Int)==0)=c:=⟨_,rfl⟩;cases c
   all_goals
    repeat with_reducible first|refine nz (aj aa (ent func56 rfl) h56 hb6) ?_|apply ny;simp only[f21,eA,hv',hni,hnl,hlt',hz',hcs,hi0,go_sem];rfl
    refine am.keep [56,55,54,36,35,34,10,3,2] (by simp only[go_sem];rfl) ?_
    refine am.loop (fun k s'=>s'=⟨[(56,ii 0),(55,ii 0),(54,.sl .n []),(36,ii (i:Nat)),(35,ii (b.vs.length:Nat)),(34,.sl .a ((f9 b.vs.length).map ii)),(10,.sl .n []),(3,.bp 0 0),(2,.sl z [])],73,[.var b.cells false,.dead,.dead,.dead,.var [.sl v.1 (v.2.map b0),ii 0] false]⟩) 0 (by first|(simp only[go_sem];first|done|rfl)|rfl) ?_
    rintro k _ hk rfl;repeat with_reducible first|refine nz aa ?_|apply ny;simp only[f21,e4,go_sem];rfl
    refine ak.t 4 [36,35,34,10,3,2] hlt (by simp only[aF,k5,go_sem]) (by first|(simp only[go_sem];first|done|rfl)|rfl)
  ·have hlt':¬(i:Int)<b.vs.length:=by omega
   repeat with_reducible first|refine nz aa ?_|apply ny;simp only[f21,hlt',hnl,go_sem];rfl
   exact⟨rfl,rfl,_,rfl,aq rfl⟩
 have hL:l.length<=8:=hci.1;have hL0:0<l.length:=by
  cases l with
  |nil=>exact absurd rfl hl0
  |cons x l=>simp
 have hem:emZ l=.a:=D5 hl0;rw[hem];refine am.loop (fun i s'=>(i=0∧s'=⟨[(36,ii 0),(35,ii (b.vs.length:Nat)),(34,.sl .a ((f9 b.vs.length).map ii)),(10,.sl .n []),(3,.bp 0 0),(2,.sl z (l.map ii))],73,[.var b.cells false,.dead,.dead,.dead]⟩)∨(0<i∧s'=⟨[(36,ii (i:Nat)),(35,ii (b.vs.length:Nat)),(34,.sl .a ((f9 b.vs.length).map ii)),(10,.ms 4 l.length),(3,.bp 0 0),(2,.sl z (l.map ii))],73,[.var b.cells false,.dead,.dead,.dead,.row false 3 1 ((Ki b l i).map ii) false]⟩)) b.vs.length (.inl ⟨rfl,by first|(simp only[go_sem];first|done|rfl)|rfl⟩) ?_
 rintro i _ hi hcase;by_cases hlt:i<b.vs.length
 ·obtain⟨v,hv⟩:=hvs i hlt
  have hv':(b.vs.map d6)[i]?=some (.agg [.sl v.1 (v.2.map b0)]):=aw hv;have hni:((f9 b.vs.length).map ii)[i]?=some (ii (i:Int)):=aw (J7 hlt);have hvm:=DU hv;have hlt':(i:Int)<b.vs.length:=by omega
  have e4:=wIs i (by omega)
  have hs:=Bk.ok_s hok hvm;have h56:=KC v z l b.cues b.tunes hs.1 hs.2 (fun e=>bd hz e) (Bk.ver hB hvm) hci.2 (by omega) hl0
  have hcs:=cc v.2;have hplen:=lz v l;have hslen:=x0 b l i;have hev:d6 v=.agg [.sl v.1 (v.2.map b0)]:=rfl;rcases hcase with ⟨rfl,rfl⟩|⟨hi1,rfl⟩
  ·have h56:ab prog 56 [.agg [.sl v.1 (v.2.map b0)],.sl z (l.map ii)] [.var b.cells false,.dead,.dead,.dead] (.ret (.tuple [.ms 4 l.length,.agg [.sl v.1 (v.2.map b0),ii ((hQ v.sts 0 (l.map Int.toNat)).2:Int)]])) [.var b.cells false,.dead,.dead,.dead,.row false 3 1 ((dj v l).map ii) false]:=h56 [.var b.cells false,.dead,.dead,.dead]
   have hs1:=surK_one (l:=l) hv;have u1:IntKind.i64.wrap 1=1:=rfl;have hlt0:(0:Int)<b.vs.length:=hlt';have hni0:((f9 b.vs.length).map ii)[0]?=some (ii 0):=hni;have b00:((0:Int)==0)=true:=rfl;have hpl:((dj v l).map ii).length=l.length:=by rw[DX,hplen]
   repeat with_reducible first|refine nz (ar aa (ent func56 rfl) h56 (aD _ _ rfl)) ?_|apply ny;simp only[f21,cp,hv',hni0,hnl,hlt0,hz',hcs,hpl,b00,go_sem];rfl
   refine am.keep [56,55,54,36,35,34,10,3,2] (by simp only[go_sem];rfl) ?_
   refine am.loop (fun k s'=>s'=⟨[(56,ii (k:Nat)),(55,ii (l.length:Nat)),(54,.ms 4 l.length),(36,ii 0),(35,ii (b.vs.length:Nat)),(34,.sl .a ((f9 b.vs.length).map ii)),(10,.ms 4 l.length),(3,.bp 0 0),(2,.sl z (l.map ii))],73,[.var b.cells false,.dead,.dead,.dead,.row false 3 1 ((dj v l).map ii) false,.var [.sl v.1 (v.2.map b0),ii ((hQ v.sts 0 (l.map Int.toNat)).2:Int)] false]⟩) l.length (by first|(simp only[go_sem];first|done|rfl)|rfl) ?_
   rintro k _ hk rfl;by_cases hkl:k<l.length
   ·obtain⟨x,hx⟩:∃x,(dj v l)[k]?=some x:=⟨_,DT (by rw[hplen];exact hkl)⟩
    have hx':((dj v l).map ii)[k]?=some (ii x):=aw hx;have hkl':(k:Int)<l.length:=by omega
    have e5:=wIs k (by omega)
    repeat with_reducible first|refine nz aa ?_|apply ny;simp only[f21,hx',hkl',hpl,e5,bne_self_eq_false,go_sem];rfl
    refine ak.t 6 [56,55,54,36,35,34,10,3,2] hkl (by simp only[aF,k5,n5,go_sem]) (by first|(simp only[go_sem];first|done|rfl)|rfl)
   ·have hkl':¬(k:Int)<l.length:=by omega
    repeat with_reducible first|refine nz aa ?_|apply ny;simp only[f21,hkl',hpl,u1,go_sem];rfl
    refine ak.t 5 [36,35,34,10,3,2] hlt (by simp only[aF,k5,go_sem]) (.inr ⟨Nat.zero_lt_one,by rw[hs1];first|(simp only[u1,go_sem];first|done|rfl)|rfl⟩)
  ·have h56:ab prog 56 [.agg [.sl v.1 (v.2.map b0)],.sl z (l.map ii)] [.var b.cells false,.dead,.dead,.dead,.row false 3 1 ((Ki b l i).map ii) false] (.ret (.tuple [.ms 5 l.length,.agg [.sl v.1 (v.2.map b0),ii ((hQ v.sts 0 (l.map Int.toNat)).2:Int)]])) [.var b.cells false,.dead,.dead,.dead,.row false 3 1 ((Ki b l i).map ii) false,.row false 3 1 ((dj v l).map ii) false]:=h56 [.var b.cells false,.dead,.dead,.dead,.row false 3 1 ((Ki b l i).map ii) false]
   have hsk:=J5 (l:=l) hv;have hu0:=upK_zero (Ki b l i) (dj v l);have hi0:((i:Int)==0)=false:=by rw[EF];omega
   have hpl:((dj v l).map ii).length=l.length:=by rw[DX,hplen]
   generalize Ki b l i=A at h56 hsk hu0 hslen ⊢;have hup:∀k,((upK A (dj v l) k).map ii).length=l.length:=fun k=>by rw[DX,K6,hslen]
   have hAl:(A.map ii).length=l.length:=by rw[DX,hslen]
   repeat with_reducible first|refine nz (ar aa (ent func56 rfl) h56 (aD _ _ rfl)) ?_|apply ny;simp only[f21,cp,hv',hni,hnl,hlt',hz',hcs,hi0,hpl,hAl,go_sem];rfl
   refine am.keep [56,55,54,36,35,34,10,3,2] (by simp only[go_sem];rfl) ?_
   refine am.loop (fun k s'=>s'=⟨[(56,ii (k:Nat)),(55,ii (l.length:Nat)),(54,.ms 5 l.length),(36,ii (i:Nat)),(35,ii (b.vs.length:Nat)),(34,.sl .a ((f9 b.vs.length).map ii)),(10,.ms 4 l.length),(3,.bp 0 0),(2,.sl z (l.map ii))],73,[.var b.cells false,.dead,.dead,.dead,.row false 3 1 ((upK A (dj v l) k).map ii) false,.row false 3 1 ((dj v l).map ii) false,.var [.sl v.1 (v.2.map b0),ii ((hQ v.sts 0 (l.map Int.toNat)).2:Int)] false]⟩) l.length (by first|(simp only[hu0,go_sem];first|done|rfl)|rfl) ?_
   rintro k _ hk rfl;by_cases hkl:k<l.length
   ·obtain⟨x,hx⟩:∃x,(dj v l)[k]?=some x:=⟨_,DT (by rw[hplen];exact hkl)⟩
    obtain⟨y,hy⟩:∃y,A[k]?=some y:=⟨_,DT (by rw[hslen];exact hkl)⟩
    have hx':((dj v l).map ii)[k]?=some (ii x):=aw hx;have hy':((upK A (dj v l) k).map ii)[k]?=some (ii y):=aw (upK_get hy);have hkl':(k:Int)<l.length:=by omega
    have e5:=wIs k (by omega)
    have hgd:(dj v l).getD k 0=x:=by rw[Ep,hx];rfl
    have hupk:=hup k;by_cases hxy:x=y
    ·have hyx:(y != x)=false:=by rw[hxy];exact bne_self_eq_false y
     have hn:=upK_eq hy (hgd.trans hxy);repeat with_reducible first|refine nz aa ?_|apply ny;simp only[f21,hx',hy',hkl',hpl,hupk,e5,hyx,go_sem];rfl
     refine ak.t 7 [56,55,54,36,35,34,10,3,2] hkl (by simp only[aF,k5,n5,go_sem]) (by rw[hn];first|(simp only[go_sem];first|done|rfl)|rfl)
    ·have hyx:(y != x)=true:=by rw[bne_iff_ne];exact fun e=>hxy e.symm
     have hn:=upK_ne hy (t:=dj v l) (by rw[hgd];exact hxy)
     have hset:((upK A (dj v l) k).map ii).set k (ii (-1))=(upK A (dj v l) (k+1)).map ii:=by rw[hn,Ga]
     have hup1:=hup (k+1);have hse:d9 (ii y) 0 [PV.int .i64 (-1)]=ii (-1):=rfl;repeat with_reducible first|refine nz aa ?_|apply ny;simp only[f21,hx',hy',hkl',hpl,hupk,hup1,hse,hset,e5,hyx,go_sem];rfl
     refine ak.t 7 [56,55,54,36,35,34,10,3,2] hkl (by simp only[aF,k5,n5,go_sem]) (by first|(simp only[hse,hset,go_sem];first|done|rfl)|rfl)
   ·have hkl':¬(k:Int)<l.length:=by omega
    obtain rfl:k=l.length:=by omega
    repeat with_reducible first|refine nz aa ?_|apply ny;simp only[f21,hkl',hpl,e4,go_sem];rfl
    refine ak.t 5 [36,35,34,10,3,2] hlt (by simp only[aF,k5,go_sem]) (.inr ⟨Nat.succ_pos i,by rw[hsk];first|(simp only[go_sem];first|done|rfl)|rfl⟩)
 ·have hlt':¬(i:Int)<b.vs.length:=by omega
  rcases hcase with ⟨rfl,rfl⟩|⟨hi1,rfl⟩
  ·exfalso;omega
  ·obtain rfl:i=b.vs.length:=by omega
   have hsa:=Kv b l;have hsl:=x0 b l b.vs.length;rw[hsa]at hsl ⊢;repeat with_reducible first|refine nz aa ?_|apply ny;simp only[f21,hlt',hnl,go_sem];rfl
   exact⟨rfl,rfl,_,rfl,oG (id:=4) (z:=false) (frz:=false) rfl (ac _) (by rw[DX,hsl]) rfl⟩
end Go.Pv
