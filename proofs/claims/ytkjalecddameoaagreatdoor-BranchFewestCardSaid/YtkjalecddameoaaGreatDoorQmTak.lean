import Derived.Test.YtkjalecddameoaaGreatDoorQmFit
import Derived.Test.YtkjalecddameoaaGreatDoorQhSo
set_option linter.all false
open Go.Proofs.Tryz
namespace Go.Pv
open Go Go.RowKit Go.Proofs
set_option maxRecDepth 200000
set_option maxHeartbeats 8000000
def YT(id:Nat)(e:List PV)(low:List Box)(b:Bool)(low':List Box):Prop :=
 low'.length=low.length∧OwnOk 0 low'∧(∀own,OwnOk low.length own->SameLoops (low++own) (low'++own))∧∀(R:List Int) (pl:PV),e=[.agg [.sl .a (R.map ii),pl]]->∀own,OwnOk low.length own->∃X,isLoopB X=false ∧
  YieldOk prog id [.agg [.ms (low.length+own.length) R.length,pl]] (low++(own++[.row false 3 1 (R.map ii) false,.dead])) (.ret (.bool b)) (low'++(own++[X,.dead]))
theorem YT.leaf(id:Nat):YLeaf id (YT id):={ len:=fun h=>⟨h.1,h.2.1⟩,same:=fun h=>h.2.2.1,leaf:=fun h _ _ _ own ho=>h.2.2.2 _ _ rfl own ho }
def RdT(tm:List (Nat×PV))(n:Nat)(ps:List Nat)(as0 b:Code)(s:List Box)(e:List PV)(out:Out)(s':List Box):Prop :=
 ∀(R:List Int) (pl:PV),e=[.agg [.sl .a (R.map ii),pl]]->∀own,OwnOk (s.length+1) own->∃X,isLoopB X=false∧X.Lt 0 ∧
  YRunT prog tm n ps as0 b s (own++[.row false 3 1 (R.map ii) false,.dead]) (own++[X,.dead]) [.agg [.ms (s.length+1+own.length) R.length,pl]] out s'
theorem am.rangeT{tm:List (Nat×PV)}{n:Nat}{as0 b:Code}{f:Operand}{pa:Array Tmp}{g:FuncId}{first cap:List PV}{sg:List Box}{Q:Out->St->Prop}(hf:evO tm f=some (.fn (.func g) first cap))(he:bC prog g){L:List (List PV)}(hit:IK YT prog g (fun id=>first++(.yl id::cap)) L)
 (hpl:∀e∈L,pa.toList.length=e.length) (hps:∀p∈pa.toList,p<n) (htm:∀t v,b9 tm t=some v->Pv.Lt (sg.length+1) v) (I:Nat->List Box->Prop) (h0:I 0 sg)
 (hI:∀i s,I i s->s.length=sg.length∧(∀x∈s,x.Lt (sg.length+1))∧SameLoops sg s)
 (hr:∀i e s,L[i]?=some e->I i s->RndG (RdT tm n pa.toList as0 b) s e (I (i+1)) (fun o s'=>Q o ⟨tm,n,s'++[.gone]⟩))
 (hend:∀s,I L.length s->Q .normal ⟨tm,n,s++[.gone]⟩):am prog (.rangeFunc f pa as0 b) ⟨tm,n,sg⟩ Q:=by
 refine am.rangeG (RdT tm n pa.toList as0 b) hf he hit hpl hps htm I h0 hI hr (fun {s s' e out j} hj hs hl hb hsl hpe hoo hy=>?_) hend
 refine⟨by simp[hl],hoo,fun own ho=>?_,fun R pl hre own ho=>?_⟩
 ·have:=pq (r:=jv tm n pa.toList as0 b .ready none) (r':=jv tm n pa.toList as0 b (if j.isNone then .ready else .done) j) hsl hl own
  simpa using this
 ·have ho':OwnOk (s.length+1) own:=by simpa using ho
  obtain⟨X,hX,hXt,hyr⟩:=hy R pl hre own ho';refine⟨X,hX,?_⟩;have hpe2:pa.toList.length=[PV.agg [.ms (s.length+1+own.length) R.length,pl]].length:=by rw[hpe,hre];rfl
  have ho2:OwnOk (s.length+1) (own++[X,.dead]):=fun x hx=>by
   rcases Ez.1 hx with hx|hx
   ·exact(ho' x hx).mono (by simp)
   ·simp only[D6,Eb,EM]at hx
    rcases hx with rfl|rfl
    ·exact hXt.mono (Ee _)
    ·exact trivial
  have:=H8 (own:=own++[.row false 3 1 (R.map ii) false,.dead]) (own':=own++[X,.dead]) hpe2 hps hl (by simp) ho2 (by rw[hs];exact hb) (by rw[hs];exact htm) hj hyr
  rw[hs]at this;rw[show(s++[Box.loop (jv tm n pa.toList as0 b .ready none)]).length=sg.length+1 by simp[hs]]
  rw[Et,Et];exact this
theorem Is{s:Sty}{n:Nt}{g:FuncId}{cs:List PV}{S:List Box}(z:Z)(L:List (List Int))(p:List Int->Bool)(he:bC prog g)(hS:OwnOk 0 S)(hc:bD S.length cs=true)(hz:z=.n->L=[])(hl:L.length<=100000)(h:∀q∈L,ab prog g ((Ah s n) q::cs) S (.ret (.bool (p q))) S):
 ab prog 217 [.sl z (L.map (Ah s n)),.fn (.func g) [] cs] S (.ret (ii (lk p L 0))) S:=by
 have hS':∀b∈S,b.Lt S.length:=fun b hb=>by have:=hS b hb;simpa using this
 refine ab.ofB hTT func217 rfl rfl ?_ rfl hS' (DO _ _ _|>.2 trivial);repeat with_reducible first|refine nz aa ?_|apply ny;simp only[f217,go_sem];rfl
 refine am.keep [8,7,6,4,0,1] (by simp only[go_sem];rfl) ?_
 refine am.loop (fun i s'=>lk p L 0=lk p (L.drop i) i∧s'=⟨[(8,ii i),(7,ii L.length),(6,.sl z (L.map (Ah s n))),(4,ii 0),(0,.sl z (L.map (Ah s n))),(1,.fn (.func g) [] cs)],19,S⟩) L.length ⟨rfl,by simp only[go_sem]⟩ ?_
 rintro i _ hi ⟨hm,rfl⟩;by_cases hlt:i<L.length
 ·obtain⟨q,hq⟩:=gex hlt
  have hq':(L.map (Ah s n))[i]?=some (.agg (sj s n .a q)):=by rw[Eh,hq];rfl
  have hlt':(i:Int)<L.length:=by omega
  have hz':z≠.n:=fun e=>by rw[hz e]at hlt;simp at hlt
  have e4:=wIs i (by omega)
  rw[aP hq,fX]at hm;have hcall:ab prog g (.agg (sj s n .a q)::cs) S (.ret (.bool (p q))) S:=h q (DU hq);cases hpq:p q
  ·rw[hpq]at hm hcall
   repeat with_reducible first|refine nz (ar aa he hcall (SameLoops.refl _)) ?_|apply ny;simp only[f217,cp,hlt',hq',hz',e4,go_sem];rfl
   refine ak.k [8,7,6,4,0,1] hlt (by simp only[go_sem];rfl) ⟨by rw[hm];rfl,by simp only[go_sem]⟩
  ·rw[hpq]at hm hcall
   have hm:lk p L 0=(i:Int):=hm;rw[hm];repeat with_reducible first|refine nz (ar aa he hcall (SameLoops.refl _)) ?_|apply ny;simp only[f217,cp,hlt',hq',hz',e4,go_sem];rfl
   exact⟨rfl,SameLoops.refl _,rfl,[],by simp⟩
 ·have hlt':¬(i:Int)<L.length:=by omega
  rw[hm,Ef (by omega)]
  repeat with_reducible first|refine nz aa ?_|apply ny;simp only[f217,hlt',go_sem];rfl
  exact⟨rfl,SameLoops.refl _,rfl,[],by simp⟩
theorem HJ{s:Sty}{n:Nt}{g:FuncId}{cs:List PV}{S:List Box}(z:Z)(L:List (List Int))(p:List Int->Bool)(he:bC prog g)(hS:OwnOk 0 S)(hc:bD S.length cs=true)(hz:z=.n->L=[])(hl:L.length<=100000)(h:∀q∈L,ab prog g ((Ah s n) q::cs) S (.ret (.bool (p q))) S):
 ab prog 161 [.sl z (L.map (Ah s n)),.fn (.func g) [] cs] S (.ret (.bool (L.any p))) S:=by
 have hS':∀b∈S,b.Lt S.length:=fun b hb=>by have:=hS b hb;simpa using this
 refine ab.ofB hTT func161 rfl rfl ?_ rfl hS' (th _ _|>.2 trivial);have hidx:=Is z L p he hS hc hz hl h;rw[←lQ p L 0];by_cases h0:0<=lk p L 0
 ·rw[Ej h0]
  repeat with_reducible first|refine nz (ar aa (ent func217 rfl) hidx (SameLoops.refl _)) ?_|apply ny;simp only[f161,cp,h0,EO,go_sem];rfl
  exact⟨rfl,SameLoops.refl _,rfl,[],by simp⟩
 ·rw[Ei h0]
  repeat with_reducible first|refine nz (ar aa (ent func217 rfl) hidx (SameLoops.refl _)) ?_|apply ny;simp only[f161,cp,h0,EO,go_sem];rfl
  exact⟨rfl,SameLoops.refl _,rfl,[],by simp⟩
theorem Iq{g:FuncId}{cs:List PV}{S:List Box}(z:Z)(L:List (List Int))(p:List Int->Bool)(he:bC prog g)(hS:OwnOk 0 S)(hc:bD S.length cs=true)(hz:z=.n->L=[])(hl:L.length<=100000)(h:∀q∈L,ab prog g (slx q::cs) S (.ret (.bool (p q))) S):
 ab prog 164 [.sl z (L.map slx),.fn (.func g) [] cs] S (.ret (ii (lk p L 0))) S:=by
 have hS':∀b∈S,b.Lt S.length:=fun b hb=>by have:=hS b hb;simpa using this
 refine ab.ofB hTT func164 rfl rfl ?_ rfl hS' (DO _ _ _|>.2 trivial);repeat with_reducible first|refine nz aa ?_|apply ny;simp only[f164,go_sem];rfl
 refine am.keep [8,7,6,4,0,1] (by simp only[go_sem];rfl) ?_
 refine am.loop (fun i s'=>lk p L 0=lk p (L.drop i) i∧s'=⟨[(8,ii i),(7,ii L.length),(6,.sl z (L.map slx)),(4,ii 0),(0,.sl z (L.map slx)),(1,.fn (.func g) [] cs)],19,S⟩) L.length ⟨rfl,by simp only[go_sem]⟩ ?_
 rintro i _ hi ⟨hm,rfl⟩;by_cases hlt:i<L.length
 ·obtain⟨q,hq⟩:=gex hlt
  have hq':(L.map slx)[i]?=some (.sl .a (q.map ii)):=by rw[Eh,hq];rfl
  have hlt':(i:Int)<L.length:=by omega
  have hz':z≠.n:=fun e=>by rw[hz e]at hlt;simp at hlt
  have e4:=wIs i (by omega)
  rw[aP hq,fX]at hm;have hcall:ab prog g (.sl .a (q.map ii)::cs) S (.ret (.bool (p q))) S:=h q (DU hq);cases hpq:p q
  ·rw[hpq]at hm hcall
   repeat with_reducible first|refine nz (ar aa he hcall (SameLoops.refl _)) ?_|apply ny;simp only[f164,cp,hlt',hq',hz',e4,go_sem];rfl
   refine ak.k [8,7,6,4,0,1] hlt (by simp only[go_sem];rfl) ⟨by rw[hm];rfl,by simp only[go_sem]⟩
  ·rw[hpq]at hm hcall
   have hm:lk p L 0=(i:Int):=hm;rw[hm];repeat with_reducible first|refine nz (ar aa he hcall (SameLoops.refl _)) ?_|apply ny;simp only[f164,cp,hlt',hq',hz',e4,go_sem];rfl
   exact⟨rfl,SameLoops.refl _,rfl,[],by simp⟩
 ·have hlt':¬(i:Int)<L.length:=by omega
  rw[hm,Ef (by omega)]
  repeat with_reducible first|refine nz aa ?_|apply ny;simp only[f164,hlt',go_sem];rfl
  exact⟨rfl,SameLoops.refl _,rfl,[],by simp⟩
theorem HH{g:FuncId}{cs:List PV}{S:List Box}(z:Z)(L:List (List Int))(p:List Int->Bool)(he:bC prog g)(hS:OwnOk 0 S)(hc:bD S.length cs=true)(hz:z=.n->L=[])(hl:L.length<=100000)(h:∀q∈L,ab prog g (slx q::cs) S (.ret (.bool (p q))) S):
 ab prog 109 [.sl z (L.map slx),.fn (.func g) [] cs] S (.ret (.bool (L.any p))) S:=by
 have hS':∀b∈S,b.Lt S.length:=fun b hb=>by have:=hS b hb;simpa using this
 refine ab.ofB hTT func109 rfl rfl ?_ rfl hS' (th _ _|>.2 trivial);have hidx:=Iq z L p he hS hc hz hl h;rw[←lQ p L 0];by_cases h0:0<=lk p L 0
 ·rw[Ej h0]
  repeat with_reducible first|refine nz (ar aa (ent func164 rfl) hidx (SameLoops.refl _)) ?_|apply ny;simp only[f109,cp,h0,EO,go_sem];rfl
  exact⟨rfl,SameLoops.refl _,rfl,[],by simp⟩
 ·rw[Ei h0]
  repeat with_reducible first|refine nz (ar aa (ent func164 rfl) hidx (SameLoops.refl _)) ?_|apply ny;simp only[f109,cp,h0,EO,go_sem];rfl
  exact⟨rfl,SameLoops.refl _,rfl,[],by simp⟩
def cfYu:CallF:=aE cf0 111 yh
theorem cfYu_ok:CallFOk prog cfYu:=ah aa pK
theorem Iz{S:List Box}{k:Nat}{r:Int}(p:List Int)(hS:OwnOk 0 S)(hk:S[k]?=some (.var [ii r] false))(hl:p.length<=maxLen):ab prog 110 [.sl .a (p.map ii),.bp k 0] S (.ret (.bool (!decide (r∈p)))) S:=by
 have hS':∀b∈S,b.Lt S.length:=fun b hb=>by have:=hS b hb;simpa using this
 refine ab.ofB hTT func110 rfl rfl ?_ rfl hS' (th _ _|>.2 trivial);have hd:aN (.sl .a (p.map ii))=some p:=aI rfl;have hc:=ac p;cases hm:decide (r∈p) <;> repeat with_reducible first|refine nz cfYu_ok ?_|apply ny;simp only[f110,cfYu,yh,hk,hd,hl,hc,hm,go_sem];rfl
 all_goals exact⟨rfl,SameLoops.refl _,rfl,[],by simp⟩
def cfYv0:CallF:=aE cf0 95 c95
theorem cfYv0_ok:CallFOk prog cfYv0:=ah aa Ij
theorem same_162{S:List Box}{K:Nat}{s:Sty}{n:Nt}{v:PV}{p:List Int}(q:List Int)(hS:OwnOk 0 S)(hk:S[K]?=some (.var [v,.sl .a (p.map ii)] false))(hq:q.length<=1000):
 ab prog 162 [Ah s n q,.bp K 0] S (.ret (.bool (decide (q=p)))) S:=by
 have hS':∀b∈S,b.Lt S.length:=fun b hb=>by have:=hS b hb;simpa using this
 refine ab.ofB hTT func162 rfl rfl ?_ rfl hS' (th _ _|>.2 trivial);have hlt:K<S.length:=(DR.1 hk).1;have gk:∀B:List Box,(S++B)[K]?=some (.var [v,.sl .a (p.map ii)] false):=fun B=>by rw[DY hlt];exact hk
 have g0:=dS S;have gs0:=gq S;have hd1:aN (.sl .a (q.map ii))=some q:=aI rfl;have hd2:aN (.sl .a (p.map ii))=some p:=aI rfl;have hc1:=ac q;have hc2:=ac p;have hm:q.length<=maxLen:=by unfold maxLen;omega
 have hsv:Ah s n q=.agg (sj s n .a q):=rfl;rw[hsv];repeat with_reducible first|refine nz cfYv0_ok ?_|apply ny;simp only[f162,cfYv0,c95,gk,g0,gs0,hd1,hd2,hc1,hc2,hm,go_sem];rfl
 exact⟨rfl,SameLoops.app [.var (sj s n .a q) false] rfl (SameLoops.refl S),rfl,_,rfl⟩
def Hw(T:List (List Nat×List Int))(L:List (List Int)):List (List Int):=(T.filter fun d=>L.any fun q=>decide (q=d.2)).map fun d=>Lib.compact (Ha (bH d.1))
theorem IL{T:List (List Nat×List Int)}{L:List (List Int)}{i:Nat}{d:List Nat×List Int}(h:T[i]?=some d):Hw (T.take (i+1)) L=Hw (T.take i) L++(if(L.any fun q=>decide (q=d.2))=true then[Lib.compact (Ha (bH d.1))]else[]):=by
 unfold Hw;rw[Ev,h,Ft,Ec]
 congr 1
 show([d].filter _).map _=_
 rw[EZ,GM];by_cases hd:(L.any fun q=>decide (q=d.2))=true
 ·rw[DZ hd,DZ hd];rfl
 ·rw[D5 hd,D5 hd];rfl
theorem Ix(T:List (List Nat×List Int))(L:List (List Int)):(Hw T L).length<=T.length:=by
 unfold Hw;rw[DX];exact Fh ..
def HF(s:Sty)(n:Nt):PV:=if(s.story&&evB n)=true then(if(jf n s.sc (aX s.e s.sc s.rl)).length=0 then .tuple [.sl .n [],ii 5]else .tuple [kT (Hw (fU s.e s.sc s.rl) (jf n s.sc (aX s.e s.sc s.rl))),ii 0])else .tuple [.sl .n [],ii 2]
def cfYv:CallF:=aE (aE (aE cf0 103 c103) 88 c88) 149 c149
theorem HQ:CallFOk prog cfYv:=ah (ah (ah aa BC) qG) xP
def cfYv2:CallF:=aE cf0 96 c96
theorem cfYv2_ok:CallFOk prog cfYv2:=ah aa c96_ok
def owC(g:FuncId)(b:Box):Option (PV×Box):=if g=97 then(match b with
 |.row false e 1 es false=>match dM ld es with
  |some l=>if l.length<=100000 then some (.sl .a ((Lib.compact l).map ii),.row false e 1 ((jX l).map ii) true)else none
  |none=>none
 |_=>none)else none
theorem owC_ok:OwOk prog owC:=fun g b v b' h=>by
 unfold owC at h;split at h <;> try (cases h;done)
 rename_i hg;subst hg;split at h <;> try (cases h;done)
 rename_i e es;split at h <;> try (cases h;done)
 rename_i l hl;split at h <;> cases h
 rename_i hlen;obtain rfl:=bv cY hl;refine⟨ent func97 rfl,_,_,_,_,rfl,fun sg id hb=>?_⟩
 rw[DX];exact tC hb (fun e=>by cases e) hlen
def oraC:Ora:=⟨wS cf0,noM,some owC⟩
theorem oraC_ok:vB prog oraC:=⟨⟨cP,fun f h=>by cases h;exact owC_ok⟩,(oU cP aa).2⟩
theorem ints_inj{a b:List Int}(h:a.map ii=b.map ii):a=b:=Option.some.inj ((j8 a).symm.trans (by rw[h];exact j8 b))
theorem II(s:Sty)(hok:s.ok=true)(n:Nt):ab prog 105 [.agg s.cells,.agg (ntC n)] [] (.ret (HF s n)) []:=by
 refine ab.ofF hTT func105 rfl rfl ?_;have hds:=aS s hok;have hdn:gJ (.agg (ntC n))=some n:=fF n;have hc1:=ap s.sc;have hc2:=ao s.rz;have n20:((2:Int) != 0)=true:=rfl;have n50:((5:Int) != 0)=true:=rfl;have n00:((0:Int) != 0)=false:=rfl;cases hse:(s.story&&evB n)
 ·have hF:Jd s n=.tuple [.sl .n [],ii 2]:=by unfold Jd;rw[hse,D5 (by simp)]
  have hV:HF s n=.tuple [.sl .n [],ii 2]:=by unfold HF;rw[hse,D5 (by simp)]
  rw[hV];repeat with_reducible first|refine nz HQ ?_|apply ny;simp only[f105,cfYv,c103,hds,hdn,hF,n20,hc1,hc2,go_sem];rfl
  exact⟨rfl,rfl,_,rfl,aq rfl⟩
 ·have hst:s.story=true:=by revert hse;cases s.story <;> simp
  have hO:=Sty.story_ok hst;have hit:=DQ YT.leaf s hok hO.toPartsOk;have hct:=eM s;have hTn:=gf hO;have hTp:=fO hO;have hTr:=G8 hO;have hp:=Sty.story_parts hst;have hdt:=eD s hok hst;obtain⟨l40,l10⟩:=Ip (n:=n) hst;have hF0:Jd s n=if(jf n s.sc (aX s.e s.sc s.rl)).length=0 then .tuple [.sl .n [],ii 5]else .tuple [.sl .a ((jf n s.sc (aX s.e s.sc s.rl)).map (Ah s n)),ii 0]:=by unfold Jd;rw[hse,DZ rfl]
  have hV0:HF s n=if(jf n s.sc (aX s.e s.sc s.rl)).length=0 then .tuple [.sl .n [],ii 5]else .tuple [kT (Hw (fU s.e s.sc s.rl) (jf n s.sc (aX s.e s.sc s.rl))),ii 0]:=by unfold HF;rw[hse,DZ rfl]
  rw[hV0];clear hV0;generalize jf n s.sc (aX s.e s.sc s.rl)=L at *;by_cases hL0:L.length=0
  ·rw[DZ hL0]at hF0 ⊢
   repeat with_reducible first|refine nz HQ ?_|apply ny;simp only[f105,cfYv,c103,hds,hdn,hF0,n50,hc1,hc2,go_sem];rfl
   exact⟨rfl,rfl,_,rfl,aq rfl⟩
  ·rw[D5 hL0]at hF0 ⊢
   have hcL:=g8 s n L;have h3:=ac s.mm;have h4:=ac s.ln;repeat with_reducible first|refine nz HQ ?_|apply ny;simp only[f105,cfYv,c103,c88,c149,hds,hdn,hF0,hp,hst,hdt,n00,hc1,hc2,hcL,h3,h4,hct,bl,go_sem];rfl
   refine am.keep [21,8,6] (by simp only[go_sem];rfl) ?_
   refine am.nilBox (sg':=[.var s.cells false,.var (ntC n) false,.var [.sl .a (L.map (Ah s n))] false,.var [.ms 4 0] false,.row true 26 1 [] false]) 3 0 26 1 rfl rfl rfl ?_;rw[vj]at hit;generalize fU s.e s.sc s.rl=T at *;refine am.rangeT (L:=T.map fun dd=>[ddV dd]) (first:=[]) (cap:=[.ip s.told]) rfl (ent func198 rfl) hit ?_ ?_ ?_
    (fun i st=>st=[.var s.cells false,.var (ntC n) false,.var [.sl .a (L.map (Ah s n))] false,.var [.ms 4 (Hw (T.take i) L).length] false,.row (decide ((Hw (T.take i) L).length=0)) 26 1 ((Hw (T.take i) L).map slx) false])
    rfl ?_ ?_ ?_
   ·intro e he
    obtain⟨l,_,rfl⟩:=Ex.1 he;rfl
   ·intro t ht
    have h9:t=22:=by simpa using ht
    subst h9
    show(22:Nat)<36
    decide
   ·intro t v hv
    obtain⟨q,hq,rfl⟩:=jk hv;simp only[D6,Eb,EM]at hq;rcases hq with rfl|rfl|rfl
    ·exact fn_lt hct
    ·exact .bp (show(3:Nat)<6 by decide)
    ·exact .bp (show(2:Nat)<6 by decide)
   ·rintro i st rfl
    refine⟨rfl,fun x hx=>?_,aD _ _ rfl⟩
    simp only[D6,Eb,EM]at hx;rcases hx with rfl|rfl|rfl|rfl|rfl
    ·exact Ho (show ad s.cells=true by simp[Sty.cells,ad,PV.closed,hc1,hc2])
    ·exact Ho rfl
    ·exact Ho (by simp[ad,PV.closed,hcL])
    ·exact fun c hc=>by
      simp only[D6,Eb,EM]at hc;subst hc;exact .ms (show(4:Nat)<6 by decide)
    ·exact HK (aC _)
   ·rintro i e st he rfl
    obtain⟨d,hd,rfl⟩:∃d,T[i]?=some d∧e=[ddV d]:=by
     rw[Eh,EC]at he;obtain⟨d,a,rfl⟩:=he;exact⟨d,a,rfl⟩
    have htk:=IL (L:=L) hd;have hMl:(Hw (T.take i) L).length<=40:=Em (Ix _ _) (by rw[En];omega)
    have hdp:=(hTp d (DU hd)).1;have hdr:=hTr d (DU hd);refine .next _ rfl fun R pl hre own ho=>?_
    rw[htk];generalize Hw (T.take i) L=M at hMl ⊢;obtain⟨rfl,rfl⟩:R=bH d.1∧pl=.sl .a (d.2.map ii):=by
     injection hre with h1 _
     injection h1 with h1
     injection h1 with h2 h3
     injection h3 with h3 _
     injection h2 with _ h2
     exact⟨(ints_inj h2).symm,h3.symm⟩
    obtain⟨R,hR⟩:∃R,R=bH d.1:=⟨_,rfl⟩;rw[←hR];obtain⟨p,hpd⟩:∃p,p=d.2:=⟨_,rfl⟩;rw[←hpd];have hRl:R.length<=60:=by rw[hR];unfold bH;rw[DX];exact hdr.1
    have hLl:∀q∈L,q.length<=1000:=fun q hq=>by have:=l10 q hq;omega
    have ga0:=dS own;have ga:=dO own;have gs0:=gq own;have gs:=d8 own;have hcp:=ac p;have hcR:=ac R;have hdR:=j8 R;have hdS:=j8 (Ha R);have hsl:=Iu R;have hcS:=ac (Ha R);have hcK:=ac (Lib.compact (Ha R));have hR5:R.length<=100000:=by omega
    have q1:(M.length+1)*24<=140737488355328:=by omega
    have q2:M.length+1<=maxLen:=by unfold maxLen;omega
    have hd1:decide (M.length+1=0)=false:=by simp
    clear hR hpd hd hre htk hdp hdr hit hTp hTr;have hbody:∀(X2:Box),X2.Lt 6->∀b:Bool,(L.any fun q=>decide (q=p))=b ->
     ab prog 161 [.sl .a (L.map (Ah s n)),.fn (.func 162) [] [.bp (own.length+8) 0]] (.var s.cells false::.var (ntC n) false::.var [.sl .a (L.map (Ah s n))] false::.var [.ms 4 M.length] false::.row (decide (M.length=0)) 26 1 (M.map slx) false::X2::(own++[.row false 3 1 (R.map ii) false,.dead,.var [.ms (own.length+6) R.length,.sl .a (p.map ii)] false])) (.ret (.bool b))
      (.var s.cells false::.var (ntC n) false::.var [.sl .a (L.map (Ah s n))] false::.var [.ms 4 M.length] false::.row (decide (M.length=0)) 26 1 (M.map slx) false::X2::(own++[.row false 3 1 (R.map ii) false,.dead,.var [.ms (own.length+6) R.length,.sl .a (p.map ii)] false])):=by
     intro X2 hX2 b hb;obtain⟨S,hS⟩:∃S:List Box,S=(.var s.cells false::.var (ntC n) false::.var [.sl .a (L.map (Ah s n))] false::.var [.ms 4 M.length] false::.row (decide (M.length=0)) 26 1 (M.map slx) false::X2::(own++[.row false 3 1 (R.map ii) false,.dead,.var [.ms (own.length+6) R.length,.sl .a (p.map ii)] false])):=⟨_,rfl⟩;rw[←hS];have hSl:S.length=own.length+9:=by rw[hS];simp
     have hk:S[own.length+8]?=some (.var [.ms (own.length+6) R.length,.sl .a (p.map ii)] false):=by
      rw[hS]
      show(own++[Box.row false 3 1 (R.map ii) false,.dead,.var [.ms (own.length+6) R.length,.sl .a (p.map ii)] false])[own.length+2]?=_
      rw[ga];rfl
     have hO2:OwnOk 0 S:=fun x hx=>by
      rw[EG,hSl];rw[hS]at hx;simp only[D6,Ez,Eb,EM]at hx;rcases hx with rfl|rfl|rfl|rfl|rfl|rfl|hx|rfl|rfl|rfl
      ·exact Ho (show ad s.cells=true by simp[Sty.cells,ad,PV.closed,hc1,hc2])
      ·exact Ho rfl
      ·exact Ho (by simp[ad,PV.closed,hcL])
      ·exact fun c hc=>by
        simp only[D6,Eb,EM]at hc;subst hc;exact .ms (by omega)
      ·exact HK (aC _)
      ·exact hX2.mono (by omega)
      ·exact(ho x hx).mono (by simp;omega)
      ·exact HK hcR
      ·exact trivial
      ·exact fun c hc=>by
        simp only[D6,Eb,EM]at hc;rcases hc with rfl|rfl
        ·exact .ms (by omega)
        ·exact(av _ (show(PV.sl .a (p.map ii)).closed=true from hcp)).mono (Ee _)
     have hlt:bD S.length [PV.bp (own.length+8) 0]=true:=by
      rw[hSl]
      show(Nat.blt (own.length+8) (own.length+9)&&true)=true
      simp
     rw[←hb];exact HJ .a L (fun q=>decide (q=p)) (ent func162 rfl) hO2 hlt (by simp) (by omega) fun q hq=>same_162 q hO2 hk (hLl q hq)
    have htm:∀t v,b9 [(21,PV.fn (.func 198) [] [.ip s.told]),(8,PV.bp 3 0),(6,PV.bp 2 0)] t=some v->Pv.Lt 6 v:=by
     intro t v hv;obtain⟨q,hq,rfl⟩:=jk hv;simp only[D6,Eb,EM]at hq;rcases hq with rfl|rfl|rfl
     ·exact fn_lt hct
     ·exact .bp (by decide)
     ·exact .bp (by decide)
    have hNn:∀a b c d e:Box,[a,b,c,d,e].length+1+own.length=own.length+6:=fun a b c d e=>by simp;omega
    rw[hNn];have hN8:own.length+2+1+1+1+1+1+1=own.length+8:=rfl;cases hA:L.any fun q=>decide (q=p)
    ·rw[D5 (by simp),Er]
     refine⟨.row false 3 1 (R.map ii) false,rfl,HK hcR,?_⟩;unfold YRunT;generalize hX:Box.loop _=X1;repeat with_reducible first|refine nz aa ?_|apply ny;simp only[f105,oS,FX,ga0,ga,gs0,gs,hN8,go_sem];rfl
     refine⟨rfl,own++[.row false 3 1 (R.map ii) false,.dead,.var [.ms (own.length+6) R.length,.sl .a (p.map ii)] false],by rw[←hX];simp,?_⟩
     dsimp only;generalize hX2:Box.loop _=X2;have hcall:=hbody X2 (by rw[←hX2];exact htm) false hA
     repeat with_reducible first|refine nz (ar aa (ent func161 rfl) hcall (SameLoops.refl _)) ?_|apply ny;simp only[f105,cp,bl,hcL,ga0,ga,gs0,gs,go_sem];rfl
     exact⟨rfl,[.var [.ms (own.length+6) R.length,.sl .a (p.map ii)] false],by rw[←hX2];simp⟩
    ·rw[DZ rfl]
     refine⟨.row false 3 1 ((jX (Ha R)).map ii) true,rfl,HK (ac _),?_⟩;unfold YRunT;generalize hX:Box.loop _=X1;repeat with_reducible first|refine nz aa ?_|apply ny;simp only[f105,oS,FX,ga0,ga,gs0,gs,hN8,go_sem];rfl
     refine⟨rfl,own++[.row false 3 1 (R.map ii) false,.dead,.var [.ms (own.length+6) R.length,.sl .a (p.map ii)] false],by rw[←hX];simp,?_⟩
     dsimp only;generalize hX2:Box.loop _=X2;have hcall:=hbody X2 (by rw[←hX2];exact htm) true hA
     repeat with_reducible first|(fail_if_success refine am.seq (x:=.region 9 _ _) ?_);(fail_if_success show am _ (.region 9 _ _) _ _);refine nz (ar cfYv2_ok (ent func161 rfl) hcall (SameLoops.refl _)) ?_|apply ny;simp only[f105,cp,bl,cfYv2,c96,hdR,hR5,hcL,ga0,ga,gs0,gs,go_sem];rfl
     refine am.drawnR [] hTT oraC_ok mixed (by kernel_rfl) (by simp only[go_sem];rfl) ?_
     iterate 7 (apply HD.step;(focus (simp only[f105,H4,oraC,owC,hdS,hsl,hcS,hR5,q1,q2,hcK,ga0,ga,gs0,gs,go_sem];with_reducible rfl)))
     have hnd:[3,own.length+8,own.length+6,own.length+3+1+1+1+1+1+1,4,own.length+3+1+1+1+1+1+1+1].Nodup:=by simp
     refine HD.nil ⟨fJ [3,own.length+8,own.length+6,own.length+3+1+1+1+1+1+1,4,own.length+3+1+1+1+1+1+1+1] [(false,none,[0]),(false,none,[1]),(false,none,[1]),(false,some 2,[3,2]),(false,none,[]),(false,some 4,[5,4]),(false,some 0,[0,4])] hnd (by kernel_rfl) rfl (by kernel_rfl),?_⟩
     repeat with_reducible first|refine nz aa ?_|apply ny;simp only[f105,go_sem];rfl
     have hsx:slx (Lib.compact (Ha R))=.sl .a ((Lib.compact (Ha R)).map ii):=rfl;refine⟨rfl,[.var [.ms (own.length+6) R.length,.sl .a (p.map ii)] false,.dead,.dead],?_⟩;rw[←hX2,Ea,Ec];simp only[hd1,hsx,go_sem]
   ·rintro st rfl
    rw[DX,Eg];repeat with_reducible first|refine nz aa ?_|apply ny;simp only[f105,bl,go_sem];rfl
    refine⟨rfl,rfl,_,rfl,?_⟩;exact oG (id:=4) rfl (aC _) (by rw[DX]) rfl
def betI(a b:List Int):Bool:=decide (a.length<b.length)||(decide (a.length=b.length)&&aV a b)
def Hc:List Int->List (List Int)->List Int
 |o,[]=>o
 |o,x::l=>Hc (if betI x o=true then x else o) l
def cfYw0:CallF:=aE cf0 108 c108
theorem Hq:CallFOk prog cfYw0:=ah aa c108_ok
theorem Ie(za zb:Z)(a b:List Int)(ha:zOk za (a.map ii)=true)(hb:zOk zb (b.map ii)=true)(hs:a.length<=1000):ab prog 107 [.sl za (a.map ii),.sl zb (b.map ii)] [] (.ret (.bool (betI a b))) []:=by
 refine ab.of0 hTT func107 rfl rfl ?_;have hd1:aN (.sl za (a.map ii))=some a:=aI ha;have hd2:aN (.sl zb (b.map ii))=some b:=aI hb;have hc1:=ac a;have hc2:=ac b;have hm:a.length<=maxLen:=by unfold maxLen;omega
 unfold betI;by_cases h1:a.length<b.length
 ·have h1':(a.length:Int)<b.length:=by omega
  rw[Ej h1];repeat with_reducible first|refine nz Hq ?_|apply ny;simp only[f107,h1',hc1,hc2,go_sem];rfl
  exact⟨rfl,rfl,_,rfl,rfl⟩
 ·have h1':¬(a.length:Int)<b.length:=by omega
  rw[Ei h1];by_cases h2:a.length=b.length
  ·have h2':((a.length:Int)==(b.length:Int))=true:=by rw[h2];simp
   rw[Ej h2];have hc:=IA a b;cases hsn:aV a b
   ·rw[hsn]at hc
    have hcl:=FM hc;repeat with_reducible first|refine nz Hq ?_|apply ny;simp only[f107,cfYw0,c108,hd1,hd2,hm,h1',h2',hcl,hc1,hc2,go_sem];rfl
    exact⟨rfl,rfl,_,rfl,rfl⟩
   ·rw[hsn]at hc
    have hcl:=Eu hc;repeat with_reducible first|refine nz Hq ?_|apply ny;simp only[f107,cfYw0,c108,hd1,hd2,hm,h1',h2',hcl,hc1,hc2,go_sem];rfl
    exact⟨rfl,rfl,_,rfl,rfl⟩
  ·have h2':((a.length:Int)==(b.length:Int))=false:=by rw[EF];omega
   rw[Ei h2];repeat with_reducible first|refine nz Hq ?_|apply ny;simp only[f107,h1',h2',hc1,hc2,go_sem];rfl
   exact⟨rfl,rfl,_,rfl,rfl⟩
def c107:Tb_
 |[v,w],sg=>match aN v,aN w with
  |some a,some b=>if a.length<=1000 then some (.ret (.bool (betI a b)),sg)else none
  |_,_=>none
 |_,_=>none
theorem c107_ok:al prog 107 c107:=al.of0 (ent func107 rfl) fun args sg r sg' h=>by
 unfold c107 at h;split at h <;> try (cases h;done)
 split at h <;> try (cases h;done)
 rename_i h1 h2;split at h <;> cases h
 rename_i hc;obtain⟨za,rfl,ha⟩:=aJ h1;obtain⟨zb,rfl,hb⟩:=aJ h2;exact⟨_,rfl,rfl,by rw[af,bt,af,bt];rfl,Ie za zb _ _ (qy ha) (qy hb) hc⟩
def cfYw:CallF:=aE cf0 107 c107
theorem IE:CallFOk prog cfYw:=ah aa c107_ok
theorem best_106(o:List Int)(l:List (List Int))(hl:l.length<=1000)(ho:o.length<=1000)(hx:∀x∈l,x.length<=1000):ab prog 106 [.sl .a (slx o::l.map slx),.fn (.func 107) [] []] [] (.ret (slx (Hc o l))) []:=by
 refine ab.ofF hTT func106 rfl rfl ?_;have hso:slx o=.sl .a (o.map ii):=rfl;have h1:(1:Int)<=((l.length+1:Nat):Int):=by omega
 have h2:(0:Int)<((l.length+1:Nat):Int):=by omega
 have hal:((l.map slx).all fun y=>y.cells.length==1)=true:=by rw[FS];exact D7.2 fun _ _=>rfl
 simp only[PV.cells]at hal;have h3:l.length+1-1=l.length:=by omega
 have ht:(l.map slx).take l.length=l.map slx:=EQ (by simp)
 have hco:=ac o;have hcl:=aC l;repeat with_reducible first|refine nz aa ?_|apply ny;simp only[f106,hso,h1,h2,h3,ht,hal,hco,hcl,go_sem];rfl
 refine am.keep [14,13,12,5,1] (by simp only[go_sem];rfl) ?_
 refine am.loop (fun i s'=>∃c:List Int,Hc o l=Hc c (l.drop i)∧c.length<=1000∧s'=⟨[(14,ii (i:Int)),(13,ii (l.length:Int)),(12,.sl .a (l.map slx)),(5,.sl .a (c.map ii)),(1,.fn (.func 107) [] [])],25,[]⟩) l.length ⟨o,rfl,ho,by first|(simp only[go_sem];first|done|rfl)|rfl⟩ ?_
 rintro i _ hi ⟨c,hc,hcn,rfl⟩;have hd2:aN (.sl .a (c.map ii))=some c:=aI rfl;have hcc:=ac c;by_cases hlt:i<l.length
 ·obtain⟨x,hx1⟩:=gex hlt
  have hx':(l.map slx)[i]?=some (.sl .a (x.map ii)):=aw hx1;have hlt':(i:Int)<l.length:=by omega
  have hd1:aN (.sl .a (x.map ii))=some x:=aI rfl;have hcx:=ac x;have hxn:=hx x (DU hx1);have e4:=wIs i (by omega)
  rw[aP hx1,Hc]at hc;cases hb:betI x c
  ·rw[hb]at hc
   repeat with_reducible first|refine nz IE ?_|apply ny;simp only[f106,cfYw,c107,hx',hlt',hd1,hd2,hb,hxn,hcc,hcx,hcl,e4,go_sem];rfl
   refine ak.k [14,13,12,5,1] hlt (by simp only[go_sem];rfl) ⟨c,by rw[hc];rfl,hcn,by first|(simp only[go_sem];first|done|rfl)|rfl⟩
  ·rw[hb]at hc
   repeat with_reducible first|refine nz IE ?_|apply ny;simp only[f106,cfYw,c107,hx',hlt',hd1,hd2,hb,hxn,hcc,hcx,hcl,e4,go_sem];rfl
   refine ak.k [14,13,12,5,1] hlt (by simp only[go_sem];rfl) ⟨x,by rw[hc];rfl,hxn,by first|(simp only[go_sem];first|done|rfl)|rfl⟩
 ·have hlt':¬(i:Int)<l.length:=by omega
  rw[Ef (by omega)]at hc
  repeat with_reducible first|refine nz aa ?_|apply ny;simp only[f106,hlt',go_sem];rfl
  rw[hc];exact⟨rfl,rfl,_,rfl,aq (show ad _=true from hcc)⟩
theorem HE:∀{a b:List Int},a.Pairwise (·<·)->b.Pairwise (·<·)->(∀x,x∈a↔x∈b)->a=b
 |[],[],_,_,_=>rfl
 |[],y::b,_,_,h=>by have:=(h y).2 DV;cases this
 |x::a,[],_,_,h=>by have:=(h x).1 DV;cases this
 |x::a,y::b,ha,hb,h=>by
  rw[FL]at ha hb;have hxy:x=y:=by
   have h1:=(h x).1 DV;have h2:=(h y).2 DV;rcases D6.1 h1 with e|h1
   ·exact e
   ·rcases D6.1 h2 with e|h2
    ·exact e.symm
    ·have:=ha.1 y h2
     have:=hb.1 x h1
     omega
  subst hxy
  congr 1
  refine HE ha.2 hb.2 fun z=>⟨fun hz=>?_,fun hz=>?_⟩
  ·rcases D6.1 ((h z).1 (DW _ hz))with e|hz'
   ·subst e;have:=ha.1 z hz;omega
   ·exact hz'
  ·rcases D6.1 ((h z).2 (DW _ hz))with e|hz'
   ·subst e;have:=hb.1 z hz;omega
   ·exact hz'
theorem HC{l:List Nat}{x:Int}:x∈bH l↔∃i∈l,(i:Int)=x:=by unfold bH;rw[Ex];rfl
theorem set_comp{k:Nat}{rs:List Nat}(h:∀i∈rs,i<k):Lib.compact (Ha (bH rs))=bH (HB k rs):=by
 obtain⟨h1,h2⟩:=Iy (bH rs);refine HE h1 ?_ fun x=>?_
 ·unfold bH
  rw[List.pairwise_map];exact(He k rs).imp fun h=>Int.ofNat_lt.2 h
 ·rw[h2,HC,HC]
  exact⟨fun ⟨i,hi,e⟩=>⟨i,(Hd h).2 hi,e⟩,fun ⟨i,hi,e⟩=>⟨i,(Hd h).1 hi,e⟩⟩
def H6(T:List (List Nat×List Int))(L:List (List Int)):List (List Nat):=(T.filter fun d=>L.any fun q=>decide (q=d.2)).map (·.1)
theorem HS{T:List (List Nat×List Int)}{L:List (List Int)}{k:Nat}(h:∀d∈T,∀i∈d.1,i<k):Hw T L=((H6 T L).map (HB k)).map bH:=by
 unfold Hw H6;rw[Fb,Fb];refine EP fun d hd=>set_comp (h d (Gd.1 hd).1)
theorem betI_nat(a b:List Nat):betI (bH a) (bH b)=Hg a b:=by
 unfold betI Hg Ia;have e:∀l:List Nat,(bH l).length=l.length:=fun l=>DX ..
 rw[e,e]
theorem Hs:∀(l:List (List Nat)) (o:List Nat),Hc (bH o) (l.map bH)=bH (Hm o l)
 |[],o=>rfl
 |x::l,o=>by
  rw[EE,Hc,Hm,betI_nat];by_cases h:Hg x o=true
  ·rw[DZ h,DZ h];exact Hs l x
  ·rw[D5 h,D5 h];exact Hs l o
theorem H2{T:List (List Nat×List Int)}{L:List (List Int)}{k:Nat}(h:∀d∈T,∀i∈d.1,i<k):∀rs∈H6 T L,∀i∈rs,i<k:=fun rs hr i hi=>by
 obtain⟨d,hd,rfl⟩:=Ex.1 hr;exact h d (Gd.1 hd).1 i hi
theorem It{T:List (List Nat×List Int)}{L:List (List Int)}{k:Nat}(h:∀d∈T,∀i∈d.1,i<k){o:List Int}{l:List (List Int)}(ht:Hw T L=o::l):∃x,(HZ k).find? (JL (H6 T L))=some x∧Hc o l=bH x∧x.length<=k:=by
 rw[HS h]at ht;cases hg:(H6 T L).map (HB k)with
 |nil=>rw[hg]at ht;cases ht
 |cons a r =>
  rw[hg]at ht;injection ht with h1 h2
  refine⟨Hm a r,HL (H2 h) hg,by rw[←h1,←h2,Hs],?_⟩
  have hf:=HL (H2 h) hg;have hm:=Hz.1 (Jy hf);have:=jG (n:=k) (i:=0) hm.1 fun x hx=>⟨Ee _,hm.2 x hx⟩
  omega
theorem JX{T:List (List Nat×List Int)}{L:List (List Int)}{k:Nat}(h:∀d∈T,∀i∈d.1,i<k)(r:Nat):((Hw T L).any fun x=>!decide ((r:Int)∈x))=!((H6 T L).all fun rs=>decide (r∈rs)):=by
 rw[HS h];have hlt:=H2 (L:=L) h;generalize H6 T L=G at hlt;induction G with
 |nil=>rfl
 |cons a G ih =>
  rw[EE,EE,GG,Fv,Bool.not_and,ih fun rs hr=>hlt rs (DW _ hr)]
  congr 2
  rw[FD,Eo,Eo,zE,Hd (hlt a DV)]
theorem rul_nil{e:Int}{sc:List Sn}{rl:List Rl}(hO:StoryOk e sc rl){L:List (List Int)}(hL:∀q∈L,q∈aX e sc rl):H6 (fU e sc rl) L=[]↔L=[]:=by
 constructor
 ·intro h
  cases L with
  |nil=>rfl
  |cons q r =>
   obtain⟨d,hd,hq⟩:=hO.play_in.1 (hL q DV);unfold H6 at h;rw[IN,IR]at h;exact absurd (Jz.2 ⟨q,DV,Ej hq.symm⟩) (h d hd)
 ·rintro rfl
  unfold H6;rw[IN,IR];exact fun d _=>by simp
theorem set_le(k:Nat)(rs:List Nat):(HB k rs).length<=k:=by
 unfold HB;exact Em (Fh ..) (by simp)
theorem takL_len{T:List (List Nat×List Int)}{L:List (List Int)}{k:Nat}(h:∀d∈T,∀i∈d.1,i<k):∀x∈Hw T L,x.length<=k:=fun x hx=>by
 rw[HS h,Fb]at hx;obtain⟨rs,_,rfl⟩:=Ex.1 hx
 show(bH (HB k rs)).length<=k
 unfold bH;rw[DX];exact set_le k rs
theorem take_nil{T:List (List Nat×List Int)}{L:List (List Int)}:Hw T L=[]↔H6 T L=[]:=by
 unfold Hw H6;rw[IN,IN]
def Ik(k r:Nat):List Int:=bH ((List.range k).filter fun j=>decide (j≠r))
theorem IB(k r:Nat):Ik (k+1) r=Ik k r++(if k=r then[]else[(k:Int)]):=by
 unfold Ik bH;rw[IU,Ft,Ec]
 congr 1
 rw[EZ,GM];by_cases h:k=r <;> simp[h]
theorem JT(k r:Nat):(Ik k r).length<=k:=by
 unfold Ik bH;rw[DX];exact Em (Fh ..) (by simp)
def isV(l:List Int):PV:=.sl (if l.length=0 then .n else .a) (l.map ii)
abbrev Hv(s:Sty)(n:Nt):List (List Int):=Hw (fU s.e s.sc s.rl) (jf n s.sc (aX s.e s.sc s.rl))
theorem Hr{s:Sty}(n:Nt)(hst:s.story=true):(Hv s n).length<=40∧(∀x∈Hv s n,x.length<=10)∧(Hv s n=[]↔jf n s.sc (aX s.e s.sc s.rl)=[]):=by
 have hO:=Sty.story_ok hst;have hr:=G8 hO;have hk:=hO.r10;refine⟨Em (Ix _ _) (gf hO),fun x hx=>?_,?_⟩
 ·have:=takL_len (fun d hd=>(hr d hd).2) x hx
  omega
 ·rw[take_nil,rul_nil hO fun q hq=>(Aa.1 hq).1]
def Hj(s:Sty)(n:Nt):PV:=if(s.story&&evB n)=true then(match Hv s n with
 |[]=>.tuple [.sl .n [],ii 5]
 |o::l=>.tuple [slx (Hc o l),ii 0])else .tuple [.sl .n [],ii 2]
theorem HV(s:Sty)(n:Nt)(hst:s.story=true)(he:evB n=true):HF s n=match Hv s n with
 |[]=>.tuple [.sl .n [],ii 5]
 |o::l=>.tuple [.sl .a (slx o::l.map slx),ii 0]:=by
 obtain⟨_,_,h3⟩:=Hr n hst;unfold HF;rw[hst,he,EJ,DZ rfl];cases ht:Hv s n with
 |nil=>rw[DZ (by rw[h3.1 ht];rfl)]
 |cons o l =>
  rw[D5 (fun e=>by rw[h3.2 (Ew.1 e)]at ht;cases ht)]
  show PV.tuple [kT (Hv s n),ii 0]=_;rw[ht];rfl
def c105:Tb_
 |[v,w],sg=>match cS v,gJ w with
  |some s,some n=>some (.ret (HF s n),sg)
  |_,_=>none
 |_,_=>none
theorem c105_ok:al prog 105 c105:=al.of0 (ent func105 rfl) fun args sg r sg' h=>by
 unfold c105 at h;split at h <;> try (cases h;done)
 split at h <;> try (cases h;done)
 rename_i s n h1 h2;cases h;obtain⟨rfl,hok⟩:=aM h1;obtain rfl:=dz h2;exact⟨_,rfl,rfl,by rw[af,af,cm];rfl,II s hok n⟩
def cfYx:CallF:=aE cf0 105 c105
theorem Hk:CallFOk prog cfYx:=ah aa c105_ok
theorem Needs_50(s:Sty)(hok:s.ok=true)(n:Nt):ab prog 50 [.agg s.cells,.agg (ntC n)] [] (.ret (Hj s n)) []:=by
 refine ab.ofF hTT func50 rfl rfl ?_;have hds:=aS s hok;have hdn:gJ (.agg (ntC n))=some n:=fF n;have hc1:=ap s.sc;have hc2:=ao s.rz;have n20:((2:Int) != 0)=true:=rfl;have n50:((5:Int) != 0)=true:=rfl;have n00:((0:Int) != 0)=false:=rfl;cases hse:(s.story&&evB n)
 ·have hF:HF s n=.tuple [.sl .n [],ii 2]:=by unfold HF;rw[hse,D5 (by simp)]
  have hV:Hj s n=.tuple [.sl .n [],ii 2]:=by unfold Hj;rw[hse,D5 (by simp)]
  rw[hV];repeat with_reducible first|refine nz Hk ?_|apply ny;simp only[f50,cfYx,c105,hds,hdn,hF,n20,hc1,hc2,go_sem];rfl
  exact⟨rfl,rfl,_,rfl,aq rfl⟩
 ·have hst:s.story=true:=by revert hse;cases s.story <;> simp
  have he:evB n=true:=by revert hse;rw[hst];simp
  obtain⟨t40,t10,_⟩:=Hr n hst;have hF:=HV s n hst he;have hV:Hj s n=(match Hv s n with
   |[]=>.tuple [.sl .n [],ii 5]
   |o::l=>.tuple [slx (Hc o l),ii 0]):=by unfold Hj;rw[hse,DZ rfl]
  generalize Hj s n=V at hV ⊢;generalize Hv s n=L at *;cases L with
  |nil =>
   have hF:HF s n=.tuple [.sl .n [],ii 5]:=hF;have hV:V=.tuple [.sl .n [],ii 5]:=hV;rw[hV];repeat with_reducible first|refine nz Hk ?_|apply ny;simp only[f50,cfYx,c105,hds,hdn,hF,n50,hc1,hc2,go_sem];rfl
   exact⟨rfl,rfl,_,rfl,aq rfl⟩
  |cons o l =>
   have hF:HF s n=.tuple [.sl .a (slx o::l.map slx),ii 0]:=hF;have hco:=ac o;have hcl:=aC l;have hb:=best_106 o l (by simp at t40;omega) (by have:=t10 o DV;omega) fun x hx=>by have:=t10 x (DW _ hx);omega
   have hV:V=.tuple [slx (Hc o l),ii 0]:=hV;rw[hV];have hcb:=ac (Hc o l);generalize hB:Hc o l=B at hb hcb ⊢;have hsb:slx B=.sl .a (B.map ii):=rfl;have hso:slx o=.sl .a (o.map ii):=rfl;have hltb:bD 0 [PV.sl .a (slx o::l.map slx),.fn (.func 107) [] []]=true:=ae 0 _ (by simp[ad,PV.closed,hso,hco,hcl])
   repeat with_reducible first|refine nz (aj Hk (ent func106 rfl) hb hltb) ?_|apply ny;simp only[f50,eA,cfYx,c105,hds,hdn,hF,n00,hc1,hc2,hso,hsb,hco,hcl,hcb,go_sem];rfl
   exact⟨rfl,rfl,_,rfl,aq (v:=.tuple [.sl .a (B.map ii),ii 0]) (by simp[PV.closed,ad,hcb])⟩
def HO(k:Nat)(L:List (List Int)):List Int:=bH ((List.range k).filter fun r=>!(L.any fun x=>!decide ((r:Int)∈x)))
theorem IJ{k i:Nat}(L:List (List Int))(h:i<k):HO (i+1) L=HO i L++(if(L.any fun x=>!decide ((i:Int)∈x))=true then[]else[(i:Int)]):=by
 unfold HO bH;rw[IU,Ft,Ec]
 congr 1
 rw[EZ,GM];cases L.any fun x=>!decide ((i:Int)∈x) <;> rfl
theorem losI_len(k:Nat)(L:List (List Int)):(HO k L).length<=k:=by
 unfold HO bH;rw[DX];exact Em (Fh ..) (by simp)
def Id(s:Sty)(n:Nt):PV:=if(s.story&&evB n)=true then(match Hv s n with
 |[]=>.tuple [.sl .n [],ii 5]
 |o::l=>.tuple [isV (HO s.rl.length (o::l)),ii 0])else .tuple [.sl .n [],ii 2]
theorem Ir(s:Sty)(hok:s.ok=true)(n:Nt):ab prog 51 [.agg s.cells,.agg (ntC n)] [] (.ret (Id s n)) []:=by
 refine ab.ofF hTT func51 rfl rfl ?_;have hds:=aS s hok;have hdn:gJ (.agg (ntC n))=some n:=fF n;have hc1:=ap s.sc;have hc2:=ao s.rz;have n20:((2:Int) != 0)=true:=rfl;have n50:((5:Int) != 0)=true:=rfl;have n00:((0:Int) != 0)=false:=rfl;cases hse:(s.story&&evB n)
 ·have hF:HF s n=.tuple [.sl .n [],ii 2]:=by unfold HF;rw[hse,D5 (by simp)]
  have hV:Id s n=.tuple [.sl .n [],ii 2]:=by unfold Id;rw[hse,D5 (by simp)]
  rw[hV];repeat with_reducible first|refine nz Hk ?_|apply ny;simp only[f51,cfYx,c105,hds,hdn,hF,n20,hc1,hc2,go_sem];rfl
  exact⟨rfl,rfl,_,rfl,aq rfl⟩
 ·have hst:s.story=true:=by revert hse;cases s.story <;> simp
  have he:evB n=true:=by revert hse;rw[hst];simp
  obtain⟨t40,t10,_⟩:=Hr n hst;have hF:=HV s n hst he;have hk10:=(Sty.story_ok hst).r10;have hkl:=s.rl_len;have hV:Id s n=(match Hv s n with
   |[]=>.tuple [.sl .n [],ii 5]
   |o::l=>.tuple [isV (HO s.rl.length (o::l)),ii 0]):=by unfold Id;rw[hse,DZ rfl]
  generalize Id s n=V at hV ⊢;generalize Hv s n=L at *;cases L with
  |nil =>
   have hF:HF s n=.tuple [.sl .n [],ii 5]:=hF;have hV:V=.tuple [.sl .n [],ii 5]:=hV;rw[hV];repeat with_reducible first|refine nz Hk ?_|apply ny;simp only[f51,cfYx,c105,hds,hdn,hF,n50,hc1,hc2,go_sem];rfl
   exact⟨rfl,rfl,_,rfl,aq rfl⟩
  |cons o l =>
   have hF:HF s n=.tuple [.sl .a (slx o::l.map slx),ii 0]:=hF;obtain⟨L,hL⟩:∃L,L=o::l:=⟨_,rfl⟩;have hF:HF s n=.tuple [.sl .a (L.map slx),ii 0]:=by rw[hF,hL];rfl
   have hV:V=.tuple [isV (HO s.rl.length L),ii 0]:=by rw[hV,hL]
   rw[hV];rw[←hL]at t40 t10;have hcL:=aC L;have hls:bD 3 (L.map slx)=true:=ae 3 _ hcL;clear hL;rw[hkl]at hk10;rw[hkl];repeat with_reducible first|refine nz Hk ?_|apply ny;simp only[f51,cfYx,c105,hds,hdn,hF,n00,hc1,hc2,hcL,go_sem];rfl
   refine am.keep [22,21,8,6,3,2] (by simp only[go_sem];rfl) ?_
   refine am.nilRow 8 3 1 (by simp only[go_sem]) (by simp only[go_sem];rfl) (by simp only[go_sem];rfl) ?_
   refine am.loop (fun i s'=>s'=⟨[(22,ii (i:Int)),(21,ii (s.rz.length:Int)),(8,.ms 2 (HO i L).length),(6,.sl .a (L.map slx)),(3,.bp 1 0),(2,.bp 0 0)],35,[.var s.cells false,.var (ntC n) false,.row (decide ((HO i L).length=0)) 3 1 ((HO i L).map ii) false]⟩) s.rz.length (by first|(simp only[go_sem];first|done|rfl)|rfl) ?_
   rintro i _ hi rfl;have hMl:=losI_len i L;by_cases hlt:i<s.rz.length
   ·have hlt':(i:Int)<s.rz.length:=by omega
    have e4:=wIs i (by omega)
    have hst2:=IJ L hlt;generalize HO i L=U at hst2 hMl ⊢;have l1:U.length+1<=maxLen:=by unfold maxLen;omega
    have l2:(U.length+1)*8<=140737488355328:=by omega
    have hd1:decide (U.length+1=0)=false:=by simp
    have hS:OwnOk 0 [Box.var s.cells false,.var (ntC n) false,.row (decide (U.length=0)) 3 1 (U.map ii) false,.var [ii (i:Int)] false]:=fun x hx=>by
     simp only[D6,Eb,EM]at hx;rcases hx with rfl|rfl|rfl|rfl
     ·exact Ho (by simp[Sty.cells,ad,PV.closed,hc1,hc2])
     ·exact Ho rfl
     ·exact HK (ac _)
     ·exact Ho rfl
    have hcall:=HH (g:=110) (cs:=[.bp 3 0]) .a L (fun p=>!decide ((i:Int)∈p)) (ent func110 rfl) hS rfl (by simp) (by omega) fun q hq=>Iz q hS rfl (by have:=t10 q hq;unfold maxLen;omega)
    cases hA:(L.any fun p=>!decide ((i:Int)∈p))
    ·rw[hA]at hcall hst2
     repeat with_reducible first|refine nz (ar aa (ent func109 rfl) hcall (SameLoops.refl _)) ?_|apply ny;simp only[f51,cp,bl,hlt',e4,l1,l2,hc1,hc2,hcL,go_sem];rfl
     refine ak.t 3 [22,21,8,6,3,2] hlt (by simp only[aA,aF,an,az,bJ,hls,go_sem]) (by rw[hst2];first|(simp only[hd1,Ec,go_sem];first|done|rfl)|rfl)
    ·rw[hA]at hcall hst2
     repeat with_reducible first|refine nz (ar aa (ent func109 rfl) hcall (SameLoops.refl _)) ?_|apply ny;simp only[f51,cp,bl,hlt',e4,l1,l2,hc1,hc2,hcL,go_sem];rfl
     refine ak.t 3 [22,21,8,6,3,2] hlt (by simp only[aA,aF,an,az,bJ,hls,go_sem]) (by rw[hst2];first|(simp only[hd1,Ec,Er,go_sem];first|done|rfl)|rfl)
   ·obtain rfl:i=s.rz.length:=by omega
    have hlt':¬(s.rz.length:Int)<s.rz.length:=by omega
    have hiV:∀U:List Int,isV U=.sl (if decide (U.length=0)=true then .n else .a) (U.map ii):=fun U=>by unfold isV;by_cases h:U.length=0 <;> simp[h]
    rw[hiV];repeat with_reducible first|refine nz aa ?_|apply ny;simp only[f51,hlt',go_sem];rfl
    exact⟨rfl,rfl,_,rfl,oG (id:=2) rfl (ac _) (by rw[DX]) rfl⟩
abbrev Jg(s:Sty)(n:Nt):List (List Nat):=H6 (fU s.e s.sc s.rl) (jf n s.sc (aX s.e s.sc s.rl))
theorem J0{s:Sty}{n:Nt}(hst:s.story=true){o:List Int}{l:List (List Int)}(ht:Hv s n=o::l):∃x,(HZ s.rz.length).find? (JL (Jg s n))=some x∧Hc o l=bH x∧x.length<=10:=by
 have hO:=Sty.story_ok hst;have hr:=G8 hO;have hk:∀d∈fU s.e s.sc s.rl,∀i∈d.1,i<s.rl.length:=fun d hd=>(hr d hd).2
 obtain⟨x,h1,h2,h3⟩:=It hk ht;refine⟨x,?_,h2,Em h3 hO.r10⟩;rw[←s.rl_len];exact h1
def c50:Tb_
 |[v,w],sg=>match cS v,gJ w with
  |some s,some n=>some (.ret (Hj s n),sg)
  |_,_=>none
 |_,_=>none
theorem c50_ok:al prog 50 c50:=al.of0 (ent func50 rfl) fun args sg r sg' h=>by
 unfold c50 at h;split at h <;> try (cases h;done)
 split at h <;> try (cases h;done)
 rename_i s n h1 h2;cases h;obtain⟨rfl,hok⟩:=aM h1;obtain rfl:=dz h2;exact⟨_,rfl,rfl,by rw[af,af,cm];rfl,Needs_50 s hok n⟩
def c51:Tb_
 |[v,w],sg=>match cS v,gJ w with
  |some s,some n=>some (.ret (Id s n),sg)
  |_,_=>none
 |_,_=>none
theorem c51_ok:al prog 51 c51:=al.of0 (ent func51 rfl) fun args sg r sg' h=>by
 unfold c51 at h;split at h <;> try (cases h;done)
 split at h <;> try (cases h;done)
 rename_i s n h1 h2;cases h;obtain⟨rfl,hok⟩:=aM h1;obtain rfl:=dz h2;exact⟨_,rfl,rfl,by rw[af,af,cm];rfl,Ir s hok n⟩
end Go.Pv
