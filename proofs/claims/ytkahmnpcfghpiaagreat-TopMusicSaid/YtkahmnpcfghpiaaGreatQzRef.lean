import Derived.Test.YtkahmnpcfghpiaaGreatQzSure
set_option linter.all false
open Go.Proofs.Tryz
namespace Go.Pv
open Go Go.RowKit Go.Proofs
set_option maxRecDepth 200000
set_option maxHeartbeats 8000000
theorem ab.ofRep{P:Program}{f:FuncId}{args:List PV}{sg sg':List Box}{r:PRes}(hl:sg.length<=sg'.length)(h:∀(G:Gh) (us:Array Value),RepL G args us->ab P f args sg r sg'):ab P f args sg r sg' :=
 ⟨hl,fun n G w us hR hL=>(h G us hL).2 n G w us hR hL⟩
theorem Rep.lenSl{G:Gh}{z:Z}{es:List PV}{u:Value}(h:Rep G (.sl z es) u):es.length<=maxLen:=by
 cases h with
 |nils=>exact Ee _
 |sl hz hf k us hk h1 hc hm hS hr hsp=>exact Em hc hm
theorem flat_ves(l:List Ve):flat (l.map d6)=l.map fun v=>PV.sl v.1 (v.2.map b0):=by
 unfold flat;rw[List.flatMap_map];induction l with
 |nil=>rfl
 |cons v l ih=>rw[E2,EE,ih];rfl
theorem bk_lens{G:Gh}{b:Bk}{us:Array Value}(h:RepL G [.agg b.cells] us):b.vs.length<=maxLen∧∀v∈b.vs,v.2.length<=maxLen:=by
 have h0:∃u,us[0]?=some u:=by
  have:=h.1
  have hs:0<us.size:=by rw[this];simp
  exact⟨_,ED hs⟩
 obtain⟨u,hu⟩:=h0;have hr:=h.2 0 _ u rfl hu;cases hr with
 |agg hl h1 hr =>
  rename_i us2;have h2:∃u,us2[2]?=some u:=⟨_,ED (by rw[hl];show 2<3;omega)⟩
  obtain⟨u2,hu2⟩:=h2;have hv:=hr 2 _ u2 rfl hu2;refine⟨by have:=Rep.lenSl hv;rwa [DX]at this,fun v hm=>?_⟩
  clear hr;generalize hL:b.vs.map d6=L at hv;generalize b.zv=zz at hv;cases hv with
  |nils =>
   have:b.vs=[]:=by simpa using hL
   rw[this]at hm;cases hm
  |sl hz hf k us hk h1 hc hm2 hS hr hsp =>
   subst hL;obtain⟨j,hj⟩:=FT hm;have:=hr j (.sl v.1 (v.2.map b0)) (by rw[flat_ves,Eh,hj];rfl)
   have:=Rep.lenSl this
   rwa [DX]at this
theorem in_48(x a b:Int):ab prog 48 [ii x,ii a,ii b] [] (.ret (.bool (inB x a b))) []:=by
 refine ab.of0 hTT func48 rfl rfl ?_;unfold inB;by_cases h1:a<=x
 ·by_cases h2:x<=b
  all_goals
   repeat with_reducible first|refine nz aa ?_|apply ny;simp only[f48,h1,h2,EO,go_sem];rfl
   exact⟨rfl,rfl,_,rfl,by simp[h1,h2];rfl⟩
 ·repeat with_reducible first|refine nz aa ?_|apply ny;simp only[f48,h1,EO,go_sem];rfl
  exact⟨rfl,rfl,_,rfl,by simp[h1];rfl⟩
def c48:Tb_
 |[.int .i64 x,.int .i64 a,.int .i64 b],sg=>some (.ret (.bool (inB x a b)),sg)
 |_,_=>none
theorem c48_ok:al prog 48 c48:=al.of0 (ent func48 rfl) fun args sg r sg' h=>by
 unfold c48 at h;split at h <;> cases h
 exact⟨_,rfl,rfl,rfl,in_48 _ _ _⟩
def F2:CallF:=aE cf0 48 c48
theorem j1:CallFOk prog F2:=ah aa c48_ok
theorem Tune_93(b:Bk)(n:Int)(ht:-1000<=b.tunes∧b.tunes<=1000):ab prog 93 [.agg b.cells,ii n] [] (.ret (.bool (inB n 0 (b.tunes-1)))) []:=by
 refine ab.of0 hTT func93 rfl rfl ?_;have e1:IntKind.i64.wrap (b.tunes-1)=b.tunes-1:=ai (by omega) (by omega)
 repeat with_reducible first|refine nz j1 ?_|apply ny;simp only[f93,F2,c48,e1,go_sem];rfl
 exact⟨rfl,rfl,_,rfl,rfl⟩
theorem KD(b:Bk)(n:Int)(hl:b.vs.length<=1000):ab prog 16 [.agg b.cells,ii n] [] (.ret (.bool (inB n 0 ((b.vs.length:Int)-1)))) []:=by
 refine ab.of0 hTT func16 rfl rfl ?_;have e1:IntKind.i64.wrap ((b.vs.length:Int)-1)=(b.vs.length:Int)-1:=ai (by omega) (by omega)
 repeat with_reducible first|refine nz j1 ?_|apply ny;simp only[f16,F2,c48,e1,go_sem];rfl
 exact⟨rfl,rfl,_,rfl,rfl⟩
theorem F1{α:Type}(f:α->Bool){l:List α}{i:Nat}{x:α}(h:l[i]?=some x):(l.drop i).all f=(f x&&(l.drop (i+1)).all f):=by
 rw[aP h];rfl
theorem maxL64:maxLen=9223372036854775807:=rfl
theorem Right_49(b:Bk)(v:Ve)(hz:zOk v.1 (v.2.map b0)=true)(hzq:∀q∈v.2,zOk q.1 (q.2.map fx)=true)(hlv:v.2.length<=maxLen)(hcu:-1000<=b.cues∧b.cues<=1000)(ht:-1000<=b.tunes∧b.tunes<=1000):
 ab prog 49 [.agg b.cells,d6 v] [] (.ret (.bool (mv b.cues b.tunes v.sts))) []:=by
 refine ab.of0 hTT func49 rfl rfl ?_;have hev:d6 v=.agg [.sl v.1 (v.2.map b0)]:=rfl;rw[hev];have hR:mv b.cues b.tunes v.sts=((v.2.drop 0).all (fun q=>u3 b.cues b.tunes v.2.length q.2)&&inB (v.2.length:Int) 1 4):=by
  unfold mv;rw[Lc,KS,GS,Bool.and_comm]
 generalize mv b.cues b.tunes v.sts=R at hR ⊢;have hm:=maxL64;have hcb:=bh b.vs;have hcs:=cc v.2;repeat with_reducible first|refine nz j1 ?_|apply ny;simp only[f49,F2,c48,go_sem];rfl
 refine am.keep [5,3,2] (by simp only[go_sem];rfl) ?_
 refine am.loop (fun i s'=>R=((v.2.drop i).all (fun q=>u3 b.cues b.tunes v.2.length q.2)&&inB (v.2.length:Int) 1 4)∧s'=⟨[(5,ii (i:Nat)),(3,.bp 1 0),(2,.bp 0 0)],61,[.var b.cells false,.var [.sl v.1 (v.2.map b0)] false]⟩) v.2.length ⟨hR,by first|(simp only[go_sem];first|done|rfl)|rfl⟩ ?_
 clear hR;rintro i _ hi ⟨hR,rfl⟩;by_cases hlt:i<v.2.length
 ·obtain⟨q,hq⟩:=gex hlt
  have hq':(v.2.map b0)[i]?=some (.sl q.1 (q.2.map fx)):=aw hq;have hqm:=DU hq;have hlt':(i:Int)<v.2.length:=by omega
  have z1:v.1≠.n:=fun e=>by rw[bd hz e]at hlt;simp at hlt
  have e4:=wIs i (by omega)
  have e6:IntKind.i64.wrap ((v.2.length:Int)-1)=(v.2.length:Int)-1:=ai (by omega) (by omega)
  have hcq:=p3 q.2;rw[F1 _ hq]at hR;by_cases hlc:(q.2.length:Int)=b.cues
  ·have hne:((q.2.length:Int) != b.cues)=false:=by rw[hlc];exact bne_self_eq_false _
   have hR:R=((q.2.drop 0).all (mvB b.cues b.tunes v.2.length)&&(v.2.drop (i+1)).all (fun q=>u3 b.cues b.tunes v.2.length q.2)&&inB (v.2.length:Int) 1 4):=by
    rw[hR]
    show((decide ((q.2.length:Int)=b.cues)&&q.2.all (mvB b.cues b.tunes v.2.length))&&_&&_)=_
    rw[Ej hlc,EJ,GS]
   repeat with_reducible first|refine nz j1 ?_|apply ny;simp only[f49,F2,c48,hlt',hq',z1,hne,hcb,hcs,hcq,go_sem];rfl
   refine am.keep [6,5,3,2] (by simp only[go_sem];rfl) ?_
   refine am.loop (fun k s'=>R=((q.2.drop k).all (mvB b.cues b.tunes v.2.length)&&(v.2.drop (i+1)).all (fun q=>u3 b.cues b.tunes v.2.length q.2)&&inB (v.2.length:Int) 1 4)∧s'=⟨[(6,ii (k:Nat)),(5,ii (i:Nat)),(3,.bp 1 0),(2,.bp 0 0)],61,[.var b.cells false,.var [.sl v.1 (v.2.map b0)] false]⟩) q.2.length ⟨hR,by first|(simp only[go_sem];first|done|rfl)|rfl⟩ ?_
   clear hR;rintro k _ hk ⟨hR,rfl⟩;by_cases hkl:k<q.2.length
   ·obtain⟨m,hmv⟩:=gex hkl
    have hm':(q.2.map fx)[k]?=some (.agg [ii m.1,ii m.2]):=aw hmv;have hkl':(k:Int)<q.2.length:=by omega
    have z2:q.1≠.n:=fun e=>by rw[bd (hzq q hqm) e]at hkl;simp at hkl
    have e5:=wIs k (by omega)
    have h93:=Tune_93 b m.2 ht;have hb9:bD 0 [PV.agg b.cells,ii m.2]=true:=ae 0 _ (by simp[ad,PV.closed,bh])
    rw[F1 _ hmv]at hR;have hmb:mvB b.cues b.tunes v.2.length m=(inB m.1 0 ((v.2.length:Int)-1)&&inB m.2 0 (b.tunes-1)):=rfl;rw[hmb]at hR;cases h1:inB m.1 0 ((v.2.length:Int)-1)
    ·have hR:R=false:=by rw[hR,h1];simp
     rw[hR];repeat with_reducible first|refine nz j1 ?_|apply ny;simp only[f49,F2,c48,hlt',hkl',hq',hm',z1,z2,e6,h1,hcb,hcs,hcq,go_sem];rfl
     exact⟨rfl,rfl,_,rfl,rfl⟩
    cases h2:inB m.2 0 (b.tunes-1)
    ·have hR:R=false:=by rw[hR,h2];simp
     rw[hR];rw[h2]at h93;repeat with_reducible first|refine nz (aj j1 (ent func93 rfl) h93 hb9) ?_|apply ny;simp only[f49,eA,F2,c48,hlt',hkl',hq',hm',z1,z2,e6,h1,hcb,hcs,hcq,go_sem];rfl
     exact⟨rfl,rfl,_,rfl,rfl⟩
    ·have hR:R=((q.2.drop (k+1)).all (mvB b.cues b.tunes v.2.length)&&(v.2.drop (i+1)).all (fun q=>u3 b.cues b.tunes v.2.length q.2)&&inB (v.2.length:Int) 1 4):=by rw[hR,h1,h2];simp
     rw[h2]at h93;repeat with_reducible first|refine nz (aj j1 (ent func93 rfl) h93 hb9) ?_|apply ny;simp only[f49,eA,F2,c48,hlt',hkl',hq',hm',z1,z2,e5,e6,h1,hcb,hcs,hcq,go_sem];rfl
     refine ak.t 2 [6,5,3,2] hkl (by simp only[k5,n5,go_sem]) ⟨hR,by first|(simp only[go_sem];first|done|rfl)|rfl⟩
   ·have hkl':¬(k:Int)<q.2.length:=by omega
    have hR:R=((v.2.drop (i+1)).all (fun q=>u3 b.cues b.tunes v.2.length q.2)&&inB (v.2.length:Int) 1 4):=by
     rw[hR,Ef (by omega)];rfl
    repeat with_reducible first|refine nz j1 ?_|apply ny;simp only[f49,F2,c48,hlt',hkl',hq',z1,e4,hcb,hcs,hcq,go_sem];rfl
    refine ak.t 2 [5,3,2] hlt (by simp only[k5,n5,go_sem]) ⟨hR,by first|(simp only[go_sem];first|done|rfl)|rfl⟩
  ·have hne:((q.2.length:Int) != b.cues)=true:=by rw[bne_iff_ne];exact hlc
   have hR:R=false:=by
    rw[hR]
    show((decide ((q.2.length:Int)=b.cues)&&_)&&_&&_)=_
    rw[Ei hlc];simp
   rw[hR];repeat with_reducible first|refine nz j1 ?_|apply ny;simp only[f49,F2,c48,hlt',hq',z1,hne,hcb,hcs,hcq,go_sem];rfl
   exact⟨rfl,rfl,_,rfl,rfl⟩
 ·have hlt':¬(i:Int)<v.2.length:=by omega
  have hR:R=inB (v.2.length:Int) 1 4:=by rw[hR,Ef (by omega)];rfl
  rw[hR];repeat with_reducible first|refine nz j1 ?_|apply ny;simp only[f49,F2,c48,hlt',hcb,hcs,go_sem];rfl
  exact⟨rfl,rfl,_,rfl,rfl⟩
theorem Book_15(b:Bk)(hok:b.ok=true):ab prog 15 [.agg b.cells] [] (.ret (.bool (bkB b))) []:=by
 refine ab.ofRep (DS _) fun G us hL=>?_
 have hlens:=bk_lens hL;clear hL G us;refine ab.of0 hTT func15 rfl rfl ?_;have hR:bkB b=(inB b.cues 1 4&&inB b.tunes 1 6&&inB b.vs.length 1 4&&(b.vs.drop 0).all fun v=>mv b.cues b.tunes v.sts):=rfl
 generalize bkB b=R at hR ⊢;have hcb:=bh b.vs;cases h1:inB b.cues 1 4
 ·have hR:R=false:=by rw[hR,h1];rfl
  rw[hR];repeat with_reducible first|refine nz j1 ?_|apply ny;simp only[f15,F2,c48,h1,hcb,go_sem];rfl
  exact⟨rfl,rfl,_,rfl,rfl⟩
 cases h2:inB b.tunes 1 6
 ·have hR:R=false:=by rw[hR,h1,h2];rfl
  rw[hR];repeat with_reducible first|refine nz j1 ?_|apply ny;simp only[f15,F2,c48,h1,h2,hcb,go_sem];rfl
  exact⟨rfl,rfl,_,rfl,rfl⟩
 cases h3:inB (b.vs.length:Int) 1 4
 ·have hR:R=false:=by rw[hR,h1,h2,h3];rfl
  rw[hR];repeat with_reducible first|refine nz j1 ?_|apply ny;simp only[f15,F2,c48,h1,h2,h3,hcb,go_sem];rfl
  exact⟨rfl,rfl,_,rfl,rfl⟩
 rw[h1,h2,h3,EJ,EJ,EJ]at hR;have q1:=bm.1 h1;have q2:=bm.1 h2;have q3:=bm.1 h3;repeat with_reducible first|refine nz j1 ?_|apply ny;simp only[f15,F2,c48,h1,h2,h3,hcb,go_sem];rfl
 refine am.keep [3,1] (by simp only[go_sem];rfl) ?_
 refine am.loop (fun i s'=>R=((b.vs.drop i).all fun v=>mv b.cues b.tunes v.sts)∧s'=⟨[(3,ii (i:Nat)),(1,.bp 0 0)],36,[.var b.cells false]⟩) b.vs.length ⟨hR,by first|(simp only[go_sem];first|done|rfl)|rfl⟩ ?_
 clear hR;rintro i _ hi ⟨hR,rfl⟩;by_cases hlt:i<b.vs.length
 ·obtain⟨v,hv⟩:=gex hlt
  have hv':(b.vs.map d6)[i]?=some (.agg [.sl v.1 (v.2.map b0)]):=aw hv;have hvm:=DU hv;have hlt':(i:Int)<b.vs.length:=by omega
  have z1:b.zv≠.n:=fun e=>by rw[bd (Bk.ok_v hok) e]at hlt;simp at hlt
  have e4:=wIs i (by omega)
  have hs:=Bk.ok_s hok hvm;have hcs:=cc v.2;have h49:ab prog 49 [.agg b.cells,.agg [.sl v.1 (v.2.map b0)]] [] (.ret (.bool (mv b.cues b.tunes v.sts))) []:=Right_49 b v hs.1 hs.2 (hlens.2 v hvm) (by omega) (by omega)
  have hbt:bD 0 [PV.agg b.cells,.agg [.sl v.1 (v.2.map b0)]]=true:=ae 0 _ (by simp[ad,PV.closed,bh,cc])
  rw[F1 _ hv]at hR;cases hV:mv b.cues b.tunes v.sts
  ·have hR:R=false:=by rw[hR,hV];rfl
   rw[hR];rw[hV]at h49;repeat with_reducible first|refine nz (aj j1 (ent func49 rfl) h49 hbt) ?_|apply ny;simp only[f15,eA,F2,c48,hlt',hv',z1,hcb,hcs,go_sem];rfl
   exact⟨rfl,rfl,_,rfl,rfl⟩
  ·rw[hV,EJ]at hR
   rw[hV]at h49;repeat with_reducible first|refine nz (aj j1 (ent func49 rfl) h49 hbt) ?_|apply ny;simp only[f15,eA,F2,c48,hlt',hv',z1,e4,hcb,hcs,go_sem];rfl
   refine ak.t 1 [3,1] hlt (by simp only[k5,n5,go_sem]) ⟨hR,by first|(simp only[go_sem];first|done|rfl)|rfl⟩
 ·have hlt':¬(i:Int)<b.vs.length:=by omega
  have hR:R=true:=by rw[hR,Ef (by omega)];rfl
  rw[hR];repeat with_reducible first|refine nz j1 ?_|apply ny;simp only[f15,F2,c48,hlt',hcb,go_sem];rfl
  exact⟨rfl,rfl,_,rfl,rfl⟩
end Go.Pv
