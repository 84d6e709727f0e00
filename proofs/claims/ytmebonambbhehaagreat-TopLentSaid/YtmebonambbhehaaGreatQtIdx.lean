import Derived.Test.YtmebonambbhehaaGreatQtCh
set_option linter.all false
open Go.Proofs.Tryz
namespace Go.Pv
open Go Go.RowKit Go.Proofs
set_option maxRecDepth 200000
set_option maxHeartbeats 8000000
theorem index_79{g:FuncId}{cs:List PV}{S:List Box}(z:Z)(L:List Fg)(p:Fg->Bool)(he:bC prog g)(hS:OwnOk 0 S)(hc:bD S.length cs=true)(hz:z=.n->L=[])(hl:L.length<=100000)(h:∀q∈L,ab prog g (dr q::cs) S (.ret (.bool (p q))) S):
 ab prog 79 [.sl z (L.map dr),.fn (.func g) [] cs] S (.ret (ii (lk p L 0))) S:=by
 have hS':∀b∈S,b.Lt S.length:=fun b hb=>by have:=hS b hb;simpa using this
 refine ab.ofB hTT func79 rfl rfl ?_ rfl hS' (DO _ _ _|>.2 trivial);repeat with_reducible first|refine nz aa ?_|apply ny;simp only[f79,go_sem];rfl
 refine am.keep [8,7,6,4,0,1] (by simp only[go_sem];rfl) ?_
 refine am.loop (fun i s'=>lk p L 0=lk p (L.drop i) i∧s'=⟨[(8,ii i),(7,ii L.length),(6,.sl z (L.map dr)),(4,ii 0),(0,.sl z (L.map dr)),(1,.fn (.func g) [] cs)],19,S⟩) L.length ⟨rfl,by simp only[go_sem]⟩ ?_
 rintro i _ hi ⟨hm,rfl⟩;by_cases hlt:i<L.length
 ·obtain⟨q,hq⟩:=gex hlt
  have hq':(L.map dr)[i]?=some (.agg [ii q.size,ii q.rank,ii q.eve]):=by rw[Eh,hq];rfl
  have hlt':(i:Int)<L.length:=by omega
  have hz':z≠.n:=fun e=>by rw[hz e]at hlt;simp at hlt
  have e4:=wIs i (by omega)
  rw[aP hq,fX]at hm;have hcall:ab prog g (.agg [ii q.size,ii q.rank,ii q.eve]::cs) S (.ret (.bool (p q))) S:=h q (DU hq);cases hpq:p q
  ·rw[hpq]at hm hcall
   repeat with_reducible first|refine nz (ar aa he hcall (SameLoops.refl _)) ?_|apply ny;simp only[f79,cp,hlt',hq',hz',e4,go_sem];rfl
   refine ak.k [8,7,6,4,0,1] hlt (by simp only[go_sem];rfl) ⟨by rw[hm];rfl,by simp only[go_sem]⟩
  ·rw[hpq]at hm hcall
   have hm:lk p L 0=(i:Int):=hm;rw[hm];repeat with_reducible first|refine nz (ar aa he hcall (SameLoops.refl _)) ?_|apply ny;simp only[f79,cp,hlt',hq',hz',e4,go_sem];rfl
   exact⟨rfl,SameLoops.refl _,rfl,[],by simp⟩
 ·have hlt':¬(i:Int)<L.length:=by omega
  rw[hm,Ef (by omega)]
  repeat with_reducible first|refine nz aa ?_|apply ny;simp only[f79,hlt',go_sem];rfl
  exact⟨rfl,SameLoops.refl _,rfl,[],by simp⟩
theorem Ng{g:FuncId}{cs:List PV}{S:List Box}(z:Z)(L:List Fg)(p:Fg->Bool)(he:bC prog g)(hS:OwnOk 0 S)(hc:bD S.length cs=true)(hz:z=.n->L=[])(hl:L.length<=100000)(h:∀q∈L,ab prog g (dr q::cs) S (.ret (.bool (p q))) S):
 ab prog 55 [.sl z (L.map dr),.fn (.func g) [] cs] S (.ret (.bool (L.any p))) S:=by
 have hS':∀b∈S,b.Lt S.length:=fun b hb=>by have:=hS b hb;simpa using this
 refine ab.ofB hTT func55 rfl rfl ?_ rfl hS' (th _ _|>.2 trivial);have hidx:=index_79 z L p he hS hc hz hl h;rw[←lQ p L 0];by_cases h0:0<=lk p L 0
 ·rw[Ej h0]
  repeat with_reducible first|refine nz (ar aa (ent func79 rfl) hidx (SameLoops.refl _)) ?_|apply ny;simp only[f55,cp,h0,EO,go_sem];rfl
  exact⟨rfl,SameLoops.refl _,rfl,[],by simp⟩
 ·rw[Ei h0]
  repeat with_reducible first|refine nz (ar aa (ent func79 rfl) hidx (SameLoops.refl _)) ?_|apply ny;simp only[f55,cp,h0,EO,go_sem];rfl
  exact⟨rfl,SameLoops.refl _,rfl,[],by simp⟩
theorem index_76{g:FuncId}{cs:List PV}{S:List Box}(z:Z)(L:List Qi)(p:Qi->Bool)(he:bC prog g)(hS:OwnOk 0 S)(hc:bD S.length cs=true)(hz:z=.n->L=[])(hl:L.length<=100000)(h:∀q∈L,ab prog g (sf q::cs) S (.ret (.bool (p q))) S):
 ab prog 76 [.sl z (L.map sf),.fn (.func g) [] cs] S (.ret (ii (lk p L 0))) S:=by
 have hS':∀b∈S,b.Lt S.length:=fun b hb=>by have:=hS b hb;simpa using this
 refine ab.ofB hTT func76 rfl rfl ?_ rfl hS' (DO _ _ _|>.2 trivial);repeat with_reducible first|refine nz aa ?_|apply ny;simp only[f76,go_sem];rfl
 refine am.keep [8,7,6,4,0,1] (by simp only[go_sem];rfl) ?_
 refine am.loop (fun i s'=>lk p L 0=lk p (L.drop i) i∧s'=⟨[(8,ii i),(7,ii L.length),(6,.sl z (L.map sf)),(4,ii 0),(0,.sl z (L.map sf)),(1,.fn (.func g) [] cs)],19,S⟩) L.length ⟨rfl,by simp only[go_sem]⟩ ?_
 rintro i _ hi ⟨hm,rfl⟩;by_cases hlt:i<L.length
 ·obtain⟨q,hq⟩:=gex hlt
  have hq':(L.map sf)[i]?=some (.sl q.1 (q.2.map ii)):=by rw[Eh,hq];rfl
  have hlt':(i:Int)<L.length:=by omega
  have hz':z≠.n:=fun e=>by rw[hz e]at hlt;simp at hlt
  have e4:=wIs i (by omega)
  rw[aP hq,fX]at hm;have hcall:ab prog g (.sl q.1 (q.2.map ii)::cs) S (.ret (.bool (p q))) S:=h q (DU hq);cases hpq:p q
  ·rw[hpq]at hm hcall
   repeat with_reducible first|refine nz (ar aa he hcall (SameLoops.refl _)) ?_|apply ny;simp only[f76,cp,hlt',hq',hz',e4,go_sem];rfl
   refine ak.k [8,7,6,4,0,1] hlt (by simp only[go_sem];rfl) ⟨by rw[hm];rfl,by simp only[go_sem]⟩
  ·rw[hpq]at hm hcall
   have hm:lk p L 0=(i:Int):=hm;rw[hm];repeat with_reducible first|refine nz (ar aa he hcall (SameLoops.refl _)) ?_|apply ny;simp only[f76,cp,hlt',hq',hz',e4,go_sem];rfl
   exact⟨rfl,SameLoops.refl _,rfl,[],by simp⟩
 ·have hlt':¬(i:Int)<L.length:=by omega
  rw[hm,Ef (by omega)]
  repeat with_reducible first|refine nz aa ?_|apply ny;simp only[f76,hlt',go_sem];rfl
  exact⟨rfl,SameLoops.refl _,rfl,[],by simp⟩
theorem Na{g:FuncId}{cs:List PV}{S:List Box}(z:Z)(L:List Qi)(p:Qi->Bool)(he:bC prog g)(hS:OwnOk 0 S)(hc:bD S.length cs=true)(hz:z=.n->L=[])(hl:L.length<=100000)(h:∀q∈L,ab prog g (sf q::cs) S (.ret (.bool (p q))) S):
 ab prog 51 [.sl z (L.map sf),.fn (.func g) [] cs] S (.ret (.bool (L.any p))) S:=by
 have hS':∀b∈S,b.Lt S.length:=fun b hb=>by have:=hS b hb;simpa using this
 refine ab.ofB hTT func51 rfl rfl ?_ rfl hS' (th _ _|>.2 trivial);have hidx:=index_76 z L p he hS hc hz hl h;rw[←lQ p L 0];by_cases h0:0<=lk p L 0
 ·rw[Ej h0]
  repeat with_reducible first|refine nz (ar aa (ent func76 rfl) hidx (SameLoops.refl _)) ?_|apply ny;simp only[f51,cp,h0,EO,go_sem];rfl
  exact⟨rfl,SameLoops.refl _,rfl,[],by simp⟩
 ·rw[Ei h0]
  repeat with_reducible first|refine nz (ar aa (ent func76 rfl) hidx (SameLoops.refl _)) ?_|apply ny;simp only[f51,cp,h0,EO,go_sem];rfl
  exact⟨rfl,SameLoops.refl _,rfl,[],by simp⟩
theorem index_75{g:FuncId}{cs:List PV}{S:List Box}(z:Z)(L:List Int)(p:Int->Bool)(he:bC prog g)(hS:OwnOk 0 S)(hc:bD S.length cs=true)(hz:z=.n->L=[])(hl:L.length<=100000)(h:∀q∈L,ab prog g (ii q::cs) S (.ret (.bool (p q))) S):
 ab prog 75 [.sl z (L.map ii),.fn (.func g) [] cs] S (.ret (ii (lk p L 0))) S:=by
 have hS':∀b∈S,b.Lt S.length:=fun b hb=>by have:=hS b hb;simpa using this
 refine ab.ofB hTT func75 rfl rfl ?_ rfl hS' (DO _ _ _|>.2 trivial);repeat with_reducible first|refine nz aa ?_|apply ny;simp only[f75,go_sem];rfl
 refine am.keep [8,7,6,4,0,1] (by simp only[go_sem];rfl) ?_
 refine am.loop (fun i s'=>lk p L 0=lk p (L.drop i) i∧s'=⟨[(8,ii i),(7,ii L.length),(6,.sl z (L.map ii)),(4,ii 0),(0,.sl z (L.map ii)),(1,.fn (.func g) [] cs)],19,S⟩) L.length ⟨rfl,by simp only[go_sem]⟩ ?_
 rintro i _ hi ⟨hm,rfl⟩;by_cases hlt:i<L.length
 ·obtain⟨q,hq⟩:=gex hlt
  have hq':(L.map ii)[i]?=some (ii q):=by rw[Eh,hq];rfl
  have hlt':(i:Int)<L.length:=by omega
  have hz':z≠.n:=fun e=>by rw[hz e]at hlt;simp at hlt
  have e4:=wIs i (by omega)
  rw[aP hq,fX]at hm;have hcall:ab prog g (ii q::cs) S (.ret (.bool (p q))) S:=h q (DU hq);cases hpq:p q
  ·rw[hpq]at hm hcall
   repeat with_reducible first|refine nz (ar aa he hcall (SameLoops.refl _)) ?_|apply ny;simp only[f75,cp,hlt',hq',hz',e4,go_sem];rfl
   refine ak.k [8,7,6,4,0,1] hlt (by simp only[go_sem];rfl) ⟨by rw[hm];rfl,by simp only[go_sem]⟩
  ·rw[hpq]at hm hcall
   have hm:lk p L 0=(i:Int):=hm;rw[hm];repeat with_reducible first|refine nz (ar aa he hcall (SameLoops.refl _)) ?_|apply ny;simp only[f75,cp,hlt',hq',hz',e4,go_sem];rfl
   exact⟨rfl,SameLoops.refl _,rfl,[],by simp⟩
 ·have hlt':¬(i:Int)<L.length:=by omega
  rw[hm,Ef (by omega)]
  repeat with_reducible first|refine nz aa ?_|apply ny;simp only[f75,hlt',go_sem];rfl
  exact⟨rfl,SameLoops.refl _,rfl,[],by simp⟩
theorem M7{g:FuncId}{cs:List PV}{S:List Box}(z:Z)(L:List Int)(p:Int->Bool)(he:bC prog g)(hS:OwnOk 0 S)(hc:bD S.length cs=true)(hz:z=.n->L=[])(hl:L.length<=100000)(h:∀q∈L,ab prog g (ii q::cs) S (.ret (.bool (p q))) S):
 ab prog 49 [.sl z (L.map ii),.fn (.func g) [] cs] S (.ret (.bool (L.any p))) S:=by
 have hS':∀b∈S,b.Lt S.length:=fun b hb=>by have:=hS b hb;simpa using this
 refine ab.ofB hTT func49 rfl rfl ?_ rfl hS' (th _ _|>.2 trivial);have hidx:=index_75 z L p he hS hc hz hl h;rw[←lQ p L 0];by_cases h0:0<=lk p L 0
 ·rw[Ej h0]
  repeat with_reducible first|refine nz (ar aa (ent func75 rfl) hidx (SameLoops.refl _)) ?_|apply ny;simp only[f49,cp,h0,EO,go_sem];rfl
  exact⟨rfl,SameLoops.refl _,rfl,[],by simp⟩
 ·rw[Ei h0]
  repeat with_reducible first|refine nz (ar aa (ent func75 rfl) hidx (SameLoops.refl _)) ?_|apply ny;simp only[f49,cp,h0,EO,go_sem];rfl
  exact⟨rfl,SameLoops.refl _,rfl,[],by simp⟩
theorem Nm{α:Type}(p:α->Bool):∀l:List α,(l.any fun x=>!p x)=!(l.all p)
 |[]=>rfl
 |x::l=>by rw[GG,Fv,Nm p l,Bool.not_and]
theorem vLt{m:Nat}{cs:List PV}{f:Bool}(h:ad cs=true):(Box.var cs f).Lt m:=fun c hc=>(aB _ h c hc).mono (Ee _)
theorem in_54(x a b:Int):ab prog 54 [ii x,ii a,ii b] [] (.ret (.bool (inB x a b))) []:=by
 refine ab.of0 hTT func54 rfl rfl ?_;unfold inB;by_cases h1:a<=x <;> by_cases h2:x<=b
 all_goals
  repeat with_reducible first|refine nz aa ?_|apply ny;simp only[f54,EO,h1,h2,go_sem];rfl
  refine⟨rfl,rfl,_,rfl,?_⟩;simp only[h1,h2];rfl
theorem cin54_ok:dU prog 54 cin:=dU.of0 (ent func54 rfl) fun args sg r sg' h=>by
 unfold cin at h;split at h <;> cases h
 exact⟨_,rfl,rfl,rfl,in_54 _ _ _⟩
def Ml:CallF:=aE cf0 54 cin
theorem r0:CallFOk prog Ml:=ah aa cin54_ok
theorem Mc(f:Fg):ab prog 34 [dr f] [] (.ret (.bool (fgB f))) []:=by
 refine ab.of0 hTT func34 rfl rfl ?_;have he:dr f=.agg [ii f.size,ii f.rank,ii f.eve]:=rfl;rw[he];unfold fgB;cases h1:inB f.size 1 9
 ·repeat with_reducible first|refine nz r0 ?_|apply ny;simp only[f34,Ml,cin,h1,go_sem];rfl
  exact⟨rfl,rfl,_,rfl,rfl⟩
 ·cases h2:inB f.rank 1 5
  ·repeat with_reducible first|refine nz r0 ?_|apply ny;simp only[f34,Ml,cin,h1,h2,go_sem];rfl
   exact⟨rfl,rfl,_,rfl,rfl⟩
  ·repeat with_reducible first|refine nz r0 ?_|apply ny;simp only[f34,Ml,cin,h1,h2,go_sem];rfl
   exact⟨rfl,rfl,_,rfl,rfl⟩
def c34L:Tb_
 |[v],sg=>match LH v with
  |some f=>some (.ret (.bool (fgB f)),sg)
  |none=>none
 |_,_=>none
theorem c34L_ok:dU prog 34 c34L:=dU.of0 (ent func34 rfl) fun args sg r sg' h=>by
 unfold c34L at h;split at h <;> try (cases h;done)
 split at h <;> cases h
 rename_i h1;obtain rfl:=Lr _ _ h1;exact⟨_,rfl,rfl,rfl,Mc _⟩
def cfLc2:CallF:=aE Ml 34 c34L
theorem cfLc2_ok:CallFOk prog cfLc2:=ah r0 c34L_ok
theorem wrong_56(f:Fg):ab prog 56 [dr f] [] (.ret (.bool (!fgB f))) []:=by
 refine ab.of0 hTT func56 rfl rfl ?_;have he:dr f=.agg [ii f.size,ii f.rank,ii f.eve]:=rfl;have hd:LH (.agg [ii f.size,ii f.rank,ii f.eve])=some f:=rfl;rw[he];cases h:fgB f
 all_goals
  repeat with_reducible first|refine nz cfLc2_ok ?_|apply ny;simp only[f56,cfLc2,c34L,hd,h,go_sem];rfl
  exact⟨rfl,rfl,_,rfl,rfl⟩
theorem Mb(c:Ch)(hok:c.ok=true):ab prog 28 [.agg c.cells] [] (.ret (.bool (chBL c))) []:=by
 refine ab.of0 hTT func28 rfl rfl ?_;unfold chBL;cases h1:inB c.room 1 20
 ·repeat with_reducible first|refine nz r0 ?_|apply ny;simp only[f28,Ml,cin,bl,h1,go_sem];rfl
  exact⟨rfl,rfl,_,rfl,rfl⟩
 cases h2:inB c.depth 1 5
 ·repeat with_reducible first|refine nz r0 ?_|apply ny;simp only[f28,Ml,cin,bl,h1,h2,go_sem];rfl
  exact⟨rfl,rfl,_,rfl,rfl⟩
 by_cases h3:c.fs.length<=6
 ·have h3':(c.fs.length:Int)<=6:=by omega
  have hS:OwnOk 0 [Box.var c.cells false]:=fun x hx=>by
   simp only[D6,Eb,EM]at hx;subst hx;exact vLt (lU c)
  have hcall:=Ng (g:=56) (cs:=[]) c.zf c.fs (fun f=>!fgB f) (ent func56 rfl) hS rfl (fun e=>bd hok e) (by omega) fun f _=>(wrong_56 f).frame (bw 0 _ rfl) _
  rw[Nm fgB]at hcall;rw[Ej h3,EJ,EJ,EJ];generalize c.fs.all fgB=bb at hcall ⊢;cases bb
  all_goals
   repeat with_reducible first|refine nz (ar r0 (ent func55 rfl) hcall (SameLoops.refl _)) ?_|apply ny;simp only[f28,cp,Ml,cin,bl,h1,h2,h3',go_sem];rfl
   exact⟨rfl,rfl,_,rfl,rfl⟩
 ·have h3':¬(c.fs.length:Int)<=6:=by omega
  rw[Ei h3];repeat with_reducible first|refine nz r0 ?_|apply ny;simp only[f28,Ml,cin,bl,h1,h2,h3',go_sem];rfl
  exact⟨rfl,rfl,_,rfl,rfl⟩
theorem layer_61{S:List Box}{k:Nat}{c:Ch}(n:Int)(hS:OwnOk 0 S)(hk:S[k]?=some (.var c.cells false))(hd:-1000<=c.depth∧c.depth<=1000):ab prog 61 [ii n,.bp k 0] S (.ret (.bool (!inB n 0 (c.depth-1)))) S:=by
 have hS':∀b∈S,b.Lt S.length:=fun b hb=>by have:=hS b hb;simpa using this
 refine ab.ofB hTT func61 rfl rfl ?_ rfl hS' (th _ _|>.2 trivial);have e1:IntKind.i64.wrap (c.depth-1)=c.depth-1:=ai (by omega) (by omega)
 cases h:inB n 0 (c.depth-1)
 all_goals
  repeat with_reducible first|refine nz r0 ?_|apply ny;simp only[f61,Ml,cin,hk,e1,h,go_sem];rfl
  exact⟨rfl,SameLoops.refl _,rfl,[],by simp⟩
theorem MU(c:Ch)(z:Z)(p:List Int)(hz:zOk z (p.map ii)=true)(hd:-1000<=c.depth∧c.depth<=1000)(hn:c.fs.length<=1000):ab prog 33 [.agg c.cells,.sl z (p.map ii)] [] (.ret (.bool (pkB c p))) []:=by
 refine ab.of0 hTT func33 rfl rfl ?_;unfold pkB;by_cases h1:p.length=c.fs.length
 ·have h1':((p.length:Int)==(c.fs.length:Int))=true:=by rw[h1];simp
  have hS:OwnOk 0 [Box.var c.cells false]:=fun x hx=>by
   simp only[D6,Eb,EM]at hx;subst hx;exact vLt (lU c)
  have hcall:=CK (g:=61) (cs:=[.bp 0 0]) z p (fun n=>!inB n 0 (c.depth-1)) (ent func61 rfl) hS rfl (fun e=>bd hz e) (by omega) fun n _=>layer_61 n hS rfl hd
  rw[Nm (fun n:Int=>inB n 0 (c.depth-1))]at hcall
  rw[Ej h1,EJ];generalize (p.all fun n=>inB n 0 (c.depth-1))=bb at hcall ⊢
  cases bb
  all_goals
   repeat with_reducible first|refine nz (ar aa (ent func47 rfl) hcall (SameLoops.refl _)) ?_|apply ny;simp only[f33,cp,bl,h1',go_sem];rfl
   exact⟨rfl,rfl,_,rfl,rfl⟩
 ·have h1':((p.length:Int)==(c.fs.length:Int))=false:=by rw[EF];omega
  rw[Ei h1,Gj];repeat with_reducible first|refine nz aa ?_|apply ny;simp only[f33,bl,h1',go_sem];rfl
  exact⟨rfl,rfl,_,rfl,rfl⟩
theorem lX{α β:Type}(f:β->α->β)(b:β){l:List α}{i:Nat}{x:α}(h:l[i]?=some x):(l.take (i+1)).foldl f b=f ((l.take i).foldl f b) x:=by
 rw[Ev,h,FC];rfl
theorem Mw:∀{p:List Int} {m:Int},0<=m->m<=1001->(∀x∈p,-1000<=x∧x<=1000)->0<=p.foldl (fun n x=>max n (x+1)) m∧p.foldl (fun n x=>max n (x+1)) m<=1001
 |[],m,h0,h1,_=>⟨h0,h1⟩
 |x::p,m,h0,h1,h=>by
  have:=h x DV
  exact Mw (p:=p) (m:=max m (x+1)) (by omega) (by omega) fun y hy=>h y (DW _ hy)
theorem MJ(c:Ch)(z:Z)(p:List Int)(hz:zOk z (p.map ii)=true)(hn:p.length<=1000)(hp:∀x∈p,-1000<=x∧x<=1000):ab prog 32 [.agg (pkC c z p)] [] (.ret (ii (g4 p))) []:=by
 refine ab.of0 hTT func32 rfl rfl ?_;unfold g4;have hcf:=cY c.fs;have hcp:=cV p;repeat with_reducible first|refine nz aa ?_|apply ny;simp only[f32,hcf,hcp,go_sem];rfl
 refine am.keep [9,8,7,3] (by simp only[go_sem];rfl) ?_
 refine am.loop (fun i s'=>s'=⟨[(9,ii (i:Nat)),(8,ii (p.length:Nat)),(7,.sl z (p.map ii)),(3,ii ((p.take i).foldl (fun n x=>max n (x+1)) 0))],19,[.var (pkC c z p) false]⟩) p.length (by first|(simp only[go_sem];first|done|rfl)|rfl) ?_
 rintro i _ hi rfl;by_cases hlt:i<p.length
 ·obtain⟨x,hx⟩:=gex hlt
  have hx':(p.map ii)[i]?=some (ii x):=aw hx;have hlt':(i:Int)<p.length:=by omega
  have hz':z≠.n:=fun e=>by rw[bd hz e]at hlt;simp at hlt
  have hxb:=hp x (DU hx);have e4:=wIs i (by omega)
  have e5:IntKind.i64.wrap (x+1)=x+1:=ai (by omega) (by omega)
  have hs:=lX (fun n x=>max n (x+1)) (0:Int) hx
  generalize (p.take i).foldl (fun n x=>max n (x+1)) (0:Int)=m at hs ⊢
  by_cases hm:m<x+1
  ·have e6:max m (x+1)=x+1:=by omega
   rw[e6]at hs;repeat with_reducible first|refine nz aa ?_|apply ny;simp only[f32,hx',hlt',hz',e4,e5,hm,EW,hcf,hcp,go_sem];rfl
   refine ak.t 1 [9,8,7,3] hlt (by simp only[aF,dX,go_sem]) (by first|(simp only[hs,go_sem];first|done|rfl)|rfl)
  ·have e6:max m (x+1)=m:=by omega
   rw[e6]at hs;repeat with_reducible first|refine nz aa ?_|apply ny;simp only[f32,hx',hlt',hz',e4,e5,hm,EW,hcf,hcp,go_sem];rfl
   refine ak.t 1 [9,8,7,3] hlt (by simp only[aF,dX,go_sem]) (by first|(simp only[hs,go_sem];first|done|rfl)|rfl)
 ·have hlt':¬(i:Int)<p.length:=by omega
  have e:p.take i=p:=EQ (by omega)
  rw[e];repeat with_reducible first|refine nz aa ?_|apply ny;simp only[f32,hlt',go_sem];rfl
  exact⟨rfl,rfl,_,rfl,rfl⟩
end Go.Pv
