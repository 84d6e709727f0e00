import Derived.Test.YtmebonambbhehaaGreatQtBst
set_option linter.all false
open Go.Proofs.Tryz
namespace Go.Pv
open Go Go.RowKit Go.Proofs
set_option maxRecDepth 200000
set_option maxHeartbeats 8000000
theorem in_20(x a b:Int):ab prog 20 [ii x,ii a,ii b] [] (.ret (.bool (inB x a b))) []:=by
 refine ab.of0 hTT func20 rfl rfl ?_;unfold inB;by_cases h1:a<=x
 ·by_cases h2:x<=b
  all_goals
   repeat with_reducible first|refine nz aa ?_|apply ny;simp only[f20,h1,h2,EO,go_sem];rfl
   exact⟨rfl,rfl,_,rfl,by simp[h1,h2];rfl⟩
 ·repeat with_reducible first|refine nz aa ?_|apply ny;simp only[f20,h1,EO,go_sem];rfl
  exact⟨rfl,rfl,_,rfl,by simp[h1];rfl⟩
theorem cin20_ok:dU prog 20 cin:=dU.of0 (ent func20 rfl) fun args sg r sg' h=>by
 unfold cin at h;split at h <;> cases h
 exact⟨_,rfl,rfl,rfl,in_20 _ _ _⟩
def OI:CallF:=aE cf0 20 cin
theorem Lo:CallFOk prog OI:=ah aa cin20_ok
theorem NZ(f:Fg):ab prog 19 [dr f] [] (.ret (.bool (fgB f))) []:=by
 refine ab.of0 hTT func19 rfl rfl ?_;have he:dr f=.agg [ii f.size,ii f.rank,ii f.eve]:=rfl;rw[he];unfold fgB;cases h1:inB f.size 1 9
 ·repeat with_reducible first|refine nz Lo ?_|apply ny;simp only[f19,OI,cin,h1,go_sem];rfl
  exact⟨rfl,rfl,_,rfl,rfl⟩
 ·cases h2:inB f.rank 1 5
  ·repeat with_reducible first|refine nz Lo ?_|apply ny;simp only[f19,OI,cin,h1,h2,go_sem];rfl
   exact⟨rfl,rfl,_,rfl,rfl⟩
  ·repeat with_reducible first|refine nz Lo ?_|apply ny;simp only[f19,OI,cin,h1,h2,go_sem];rfl
   exact⟨rfl,rfl,_,rfl,rfl⟩
def c19L:Tb_
 |[v],sg=>match LH v with
  |some f=>some (.ret (.bool (fgB f)),sg)
  |none=>none
 |_,_=>none
theorem c19L_ok:dU prog 19 c19L:=dU.of0 (ent func19 rfl) fun args sg r sg' h=>by
 unfold c19L at h;split at h <;> try (cases h;done)
 split at h <;> cases h
 rename_i h1;obtain rfl:=Lr _ _ h1;exact⟨_,rfl,rfl,rfl,NZ _⟩
def cfLn2:CallF:=aE OI 19 c19L
theorem Ns:CallFOk prog cfLn2:=ah Lo c19L_ok
theorem List_6(c:Ch)(hok:c.ok=true)(hn:c.fs.length<=100000):ab prog 6 [.agg c.cells] [] (.ret (.bool (chBL c))) []:=by
 refine ab.of0 hTT func6 rfl rfl ?_;have hd0:chBL c=((c.fs.drop 0).all fgB&&(inB c.room 1 20&&inB c.depth 1 5&&decide (c.fs.length<=6))):=by
  unfold chBL;rw[GS,Bool.and_comm]
 generalize chBL c=d at hd0 ⊢;repeat with_reducible first|refine nz aa ?_|apply ny;simp only[f6,go_sem];rfl
 refine am.keep [3,2,1] (by simp only[go_sem];rfl) ?_
 refine am.loop (fun i s'=>d=((c.fs.drop i).all fgB&&(inB c.room 1 20&&inB c.depth 1 5&&decide (c.fs.length<=6)))∧s'=⟨[(3,ii (i:Nat)),(2,.bool false),(1,.bp 0 0)],32,[.var c.cells false]⟩) c.fs.length ⟨hd0,by first|(simp only[go_sem];first|done|rfl)|rfl⟩ ?_
 clear hd0;rintro i _ hi ⟨hd,rfl⟩;by_cases hlt:i<c.fs.length
 ·obtain⟨f,hf⟩:=gex hlt
  have hf':(c.fs.map dr)[i]?=some (.agg [ii f.size,ii f.rank,ii f.eve]):=aw hf;have hlt':(i:Int)<c.fs.length:=by omega
  have hz':c.zf≠.n:=fun e=>by rw[bd hok e]at hlt;simp at hlt
  have e4:=wIs i (by omega)
  have hdf:LH (.agg [ii f.size,ii f.rank,ii f.eve])=some f:=rfl;rw[F1 hf]at hd;cases hb:fgB f
  ·rw[hb,Gj,Gj]at hd
   rw[hd];repeat with_reducible first|refine nz Ns ?_|apply ny;simp only[f6,cfLn2,c19L,hf',hlt',hz',hdf,hb,go_sem];rfl
   exact⟨rfl,rfl,_,rfl,rfl⟩
  ·rw[hb,EJ]at hd
   repeat with_reducible first|refine nz Ns ?_|apply ny;simp only[f6,cfLn2,c19L,hf',hlt',hz',hdf,hb,e4,go_sem];rfl
   refine ak.t 1 [3,2,1] hlt (by simp only[dX,go_sem]) ⟨hd,rfl⟩
 ·have hlt':¬(i:Int)<c.fs.length:=by omega
  rw[Ln (by omega),EJ]at hd
  rw[hd];cases h1:inB c.room 1 20
  ·repeat with_reducible first|refine nz Lo ?_|apply ny;simp only[f6,OI,cin,h1,hlt',go_sem];rfl
   exact⟨rfl,rfl,_,rfl,rfl⟩
  ·cases h2:inB c.depth 1 5
   ·repeat with_reducible first|refine nz Lo ?_|apply ny;simp only[f6,OI,cin,h1,h2,hlt',go_sem];rfl
    exact⟨rfl,rfl,_,rfl,rfl⟩
   ·by_cases h3:c.fs.length<=6
    ·have h3':(c.fs.length:Int)<=6:=by omega
     rw[Ej h3];repeat with_reducible first|refine nz Lo ?_|apply ny;simp only[f6,OI,cin,h1,h2,h3',hlt',go_sem];rfl
     exact⟨rfl,rfl,_,rfl,rfl⟩
    ·have h3':¬(c.fs.length:Int)<=6:=by omega
     rw[Ei h3];repeat with_reducible first|refine nz Lo ?_|apply ny;simp only[f6,OI,cin,h1,h2,h3',hlt',go_sem];rfl
     exact⟨rfl,rfl,_,rfl,rfl⟩
theorem Mo(c:Ch)(z:Z)(p:List Int)(hz:zOk z (p.map ii)=true)(hn:p.length<=100000)(hd:-1000<=c.depth∧c.depth<=1000):ab prog 11 [.agg c.cells,.sl z (p.map ii)] [] (.ret (.bool (pkB c p))) []:=by
 refine ab.of0 hTT func11 rfl rfl ?_;have hcf:=cY c.fs;have hd0:pkB c p=(((p.drop 0).all fun n=>inB n 0 (c.depth-1))&&decide (p.length=c.fs.length)):=by
  unfold pkB;rw[GS,Bool.and_comm]
 generalize pkB c p=d at hd0 ⊢;have e1:IntKind.i64.wrap (c.depth-1)=c.depth-1:=ai (by omega) (by omega)
 repeat with_reducible first|refine nz aa ?_|apply ny;simp only[f11,hcf,go_sem];rfl
 refine am.keep [5,4,2,1] (by simp only[go_sem];rfl) ?_
 refine am.loop (fun i s'=>d=(((p.drop i).all fun n=>inB n 0 (c.depth-1))&&decide (p.length=c.fs.length))∧s'=⟨[(5,ii (i:Nat)),(4,.bool false),(2,.bp 0 0),(1,.sl z (p.map ii))],27,[.var c.cells false]⟩) p.length ⟨hd0,by first|(simp only[go_sem];first|done|rfl)|rfl⟩ ?_
 clear hd0;rintro i _ hi ⟨hd',rfl⟩;by_cases hlt:i<p.length
 ·obtain⟨x,hx⟩:=gex hlt
  have hx':(p.map ii)[i]?=some (ii x):=aw hx;have hlt':(i:Int)<p.length:=by omega
  have hz':z≠.n:=fun e=>by rw[bd hz e]at hlt;simp at hlt
  have e4:=wIs i (by omega)
  rw[F1 hx]at hd';cases hb:inB x 0 (c.depth-1)
  ·rw[hb,Gj,Gj]at hd'
   rw[hd'];repeat with_reducible first|refine nz Lo ?_|apply ny;simp only[f11,OI,cin,hx',hlt',hz',hb,e1,hcf,go_sem];rfl
   exact⟨rfl,rfl,_,rfl,rfl⟩
  ·rw[hb,EJ]at hd'
   repeat with_reducible first|refine nz Lo ?_|apply ny;simp only[f11,OI,cin,hx',hlt',hz',hb,e1,e4,hcf,go_sem];rfl
   refine ak.t 1 [5,4,2,1] hlt (by simp only[aF,dX,go_sem]) ⟨hd',rfl⟩
 ·have hlt':¬(i:Int)<p.length:=by omega
  rw[Ln (by omega),EJ]at hd'
  rw[hd'];by_cases h:p.length=c.fs.length
  ·have h':((p.length:Int)==(c.fs.length:Int))=true:=by rw[h];simp
   rw[Ej h];repeat with_reducible first|refine nz aa ?_|apply ny;simp only[f11,h',hlt',go_sem];rfl
   exact⟨rfl,rfl,_,rfl,rfl⟩
  ·have h':((p.length:Int)==(c.fs.length:Int))=false:=by rw[EF];omega
   rw[Ei h];repeat with_reducible first|refine nz aa ?_|apply ny;simp only[f11,h',hlt',go_sem];rfl
   exact⟨rfl,rfl,_,rfl,rfl⟩
theorem MM(z:Z)(p:List Int)(hz:zOk z (p.map ii)=true)(hn:p.length<=1000)(hp:∀x∈p,-1000<=x∧x<=1000):ab prog 12 [.sl z (p.map ii)] [] (.ret (ii (g4 p))) []:=by
 refine ab.of0 hTT func12 rfl rfl ?_;unfold g4;repeat with_reducible first|refine nz aa ?_|apply ny;simp only[f12,go_sem];rfl
 refine am.keep [4,3,0] (by simp only[go_sem];rfl) ?_
 refine am.loop (fun i s'=>s'=⟨[(4,ii (i:Nat)),(3,ii ((p.take i).foldl (fun n x=>max n (x+1)) 0)),(0,.sl z (p.map ii))],19,[]⟩) p.length (by first|(simp only[go_sem];first|done|rfl)|rfl) ?_
 rintro i _ hi rfl;by_cases hlt:i<p.length
 ·obtain⟨x,hx⟩:=gex hlt
  have hx':(p.map ii)[i]?=some (ii x):=aw hx;have hlt':(i:Int)<p.length:=by omega
  have hz':z≠.n:=fun e=>by rw[bd hz e]at hlt;simp at hlt
  have hxb:=hp x (DU hx);have e4:=wIs i (by omega)
  have e5:IntKind.i64.wrap (x+1)=x+1:=ai (by omega) (by omega)
  have hs:=lX (fun n x=>max n (x+1)) (0:Int) hx
  generalize (p.take i).foldl (fun n x=>max n (x+1)) (0:Int)=m at hs ⊢
  by_cases hm:m<x+1
  ·have e6:max m (x+1)=x+1:=by omega
   rw[e6]at hs;repeat with_reducible first|refine nz aa ?_|apply ny;simp only[f12,hx',hlt',hz',e4,e5,hm,EW,go_sem];rfl
   refine ak.t 0 [4,3,0] hlt (by simp only[aF,go_sem]) (by first|(simp only[hs,go_sem];first|done|rfl)|rfl)
  ·have e6:max m (x+1)=m:=by omega
   rw[e6]at hs;repeat with_reducible first|refine nz aa ?_|apply ny;simp only[f12,hx',hlt',hz',e4,e5,hm,EW,go_sem];rfl
   refine ak.t 0 [4,3,0] hlt (by simp only[aF,go_sem]) (by first|(simp only[hs,go_sem];first|done|rfl)|rfl)
 ·have hlt':¬(i:Int)<p.length:=by omega
  have e:p.take i=p:=EQ (by omega)
  rw[e];repeat with_reducible first|refine nz aa ?_|apply ny;simp only[f12,hlt',go_sem];rfl
  exact⟨rfl,rfl,_,rfl,rfl⟩
theorem movN_min{a b:List Int}{i:Nat}(h:¬(i<a.length∧i<b.length)):Ls (a.take i) (b.take i)=Ls a b:=by
 unfold Ls;have h1:∀(a b:List Int) (i:Nat),¬(i<a.length∧i<b.length)->(a.take i).zip (b.take i)=a.zip b:=by
  intro a;induction a with
  |nil=>intro b i _;simp
  |cons x a ih =>
   intro b i hi;cases b with
   |nil=>simp
   |cons y b =>
    cases i with
    |zero=>simp at hi
    |succ i=>rw[Lk,Lk,Gs,Gs,ih b i (by simpa using hi)]
 rw[h1 a b i h]
theorem Moved_16(z zq:Z)(p q:List Int)(hz:zOk z (p.map ii)=true)(hzq:zOk zq (q.map ii)=true)(hn:p.length<=1000)(hm:q.length<=1000):
 ab prog 16 [.sl z (p.map ii),.sl zq (q.map ii)] [] (.ret (ii (Ls p q:Nat))) []:=by
 refine ab.of0 hTT func16 rfl rfl ?_;have h0:((Ls (p.take 0) (q.take 0):Nat):Int)=0:=rfl;repeat with_reducible first|refine nz aa ?_|apply ny;simp only[f16,go_sem];rfl
 refine am.keep [6,5,4,0,1] (by simp only[go_sem];rfl) ?_
 refine am.loop (fun i s'=>s'=⟨[(6,ii (i:Nat)),(5,ii (Ls (p.take i) (q.take i):Nat)),(4,ii 0),(0,.sl z (p.map ii)),(1,.sl zq (q.map ii))],31,[]⟩) (min p.length q.length) (by first|(simp only[h0,go_sem];first|done|rfl)|rfl) ?_
 rintro i _ hi rfl;by_cases hlt:i<min p.length q.length
 ·obtain⟨y,hy⟩:∃y,q[i]?=some y:=⟨_,DT (by omega)⟩
  obtain⟨x,hx⟩:∃x,p[i]?=some x:=⟨_,DT (by omega)⟩
  have hy':(q.map ii)[i]?=some (ii y):=aw hy;have hx':(p.map ii)[i]?=some (ii x):=aw hx;have hl1:(i:Int)<p.length:=by omega
  have hl2:(i:Int)<q.length:=by omega
  have hz':z≠.n:=fun e=>by rw[bd hz e]at hlt;simp at hlt
  have hzq':zq≠.n:=fun e=>by rw[bd hzq e]at hlt;simp at hlt
  have e4:=wIs i (by omega)
  have hs:=MV hx hy;have hmb:=Oh (p.take i) (q.take i);rw[En]at hmb;generalize Ls (p.take i) (q.take i)=m at hs hmb ⊢;by_cases hxy:x=y
  ·rw[DZ hxy]at hs
   have h1:(x != y)=false:=by simp[hxy]
   repeat with_reducible first|refine nz aa ?_|apply ny;simp only[f16,hx',hy',hl1,hl2,hz',hzq',e4,h1,go_sem];rfl
   refine ak.t 0 [6,5,4,0,1] hlt (by simp only[aF,go_sem]) (by rw[hs];rfl)
  ·rw[D5 hxy]at hs
   have h1:(x != y)=true:=by simp[hxy]
   have e5:=wIs m (by omega)
   repeat with_reducible first|refine nz aa ?_|apply ny;simp only[f16,hx',hy',hl1,hl2,hz',hzq',e4,e5,h1,go_sem];rfl
   refine ak.t 0 [6,5,4,0,1] hlt (by simp only[aF,go_sem]) (by rw[hs];rfl)
 ·rw[movN_min (by omega)]
  by_cases hl1:(i:Int)<p.length
  ·have hl2:¬(i:Int)<q.length:=by omega
   repeat with_reducible first|refine nz aa ?_|apply ny;simp only[f16,hl1,hl2,go_sem];rfl
   exact⟨rfl,rfl,_,rfl,rfl⟩
  ·repeat with_reducible first|refine nz aa ?_|apply ny;simp only[f16,hl1,go_sem];rfl
   exact⟨rfl,rfl,_,rfl,rfl⟩
theorem Oj(l:List Int)(x:Int):zF (l++[x])=zF l+x:=by
 induction l with
 |nil=>show x+0=0+x;omega
 |cons y l ih=>show y+zF (l++[x])=y+zF l+x;rw[ih];omega
theorem Om(c:Ch)(z:Z)(p:List Int)(n:Int)(hok:c.ok=true)(hz:zOk z (p.map ii)=true)(hl:p.length=c.fs.length)(hn:p.length<=1000)(hs:∀f∈c.fs,0<=f.size∧f.size<=1000):
 ab prog 63 [.agg c.cells,.sl z (p.map ii),ii n] [] (.ret (ii (zF (x4 c.fs p n)))) []:=by
 refine ab.of0 hTT func63 rfl rfl ?_;have hcf:=cY c.fs;have h0:zF (MG c.fs p n 0)=0:=rfl;repeat with_reducible first|refine nz aa ?_|apply ny;simp only[f63,hcf,go_sem];rfl
 refine am.keep [8,7,3,1,2] (by simp only[go_sem];rfl) ?_
 refine am.loop (fun i s'=>s'=⟨[(8,ii (i:Nat)),(7,ii (zF (MG c.fs p n i))),(3,.bp 0 0),(1,.sl z (p.map ii)),(2,ii n)],30,[.var c.cells false]⟩) p.length (by first|(simp only[h0,go_sem];first|done|rfl)|rfl) ?_
 rintro i _ hi rfl;by_cases hlt:i<p.length
 ·obtain⟨f,hf⟩:∃f,c.fs[i]?=some f:=⟨_,DT (by omega)⟩
  obtain⟨x,hx⟩:=gex hlt;have hf':(c.fs.map dr)[i]?=some (.agg [ii f.size,ii f.rank,ii f.eve]):=aw hf;have hx':(p.map ii)[i]?=some (ii x):=aw hx;have hlt':(i:Int)<p.length:=by omega
  have hlt2:(i:Int)<c.fs.length:=by omega
  have hz':z≠.n:=fun e=>by rw[bd hz e]at hlt;simp at hlt
  have hzf':c.zf≠.n:=fun e=>by rw[bd hok e]at hf;simp at hf
  have e4:=wIs i (by omega)
  have hs1:=MS (n:=n) hf hx;have hA:=NI c.fs p n i;have hbd:=L0 (l:=MG c.fs p n i) fun s hsm=>by
   obtain⟨g,hg,rfl⟩:=MC hsm;exact hs g (Ey hg)
  have hfb:=hs f (DU hf);generalize MG c.fs p n i=A at hs1 hA hbd ⊢;by_cases hxn:x=n
  ·rw[DZ hxn]at hs1
   have h1:(x==n)=true:=by simp[hxn]
   have e5:IntKind.i64.wrap (zF A+f.size)=zF A+f.size:=ai (by omega) (by omega)
   repeat with_reducible first|refine nz aa ?_|apply ny;simp only[f63,hx',hf',hlt',hlt2,hz',hzf',e4,e5,h1,hcf,go_sem];rfl
   refine ak.t 1 [8,7,3,1,2] hlt (by simp only[aF,dX,go_sem]) (by rw[hs1,Oj];rfl)
  ·rw[D5 hxn,Er]at hs1
   have h1:(x==n)=false:=by simp[hxn]
   repeat with_reducible first|refine nz aa ?_|apply ny;simp only[f63,hx',hf',hlt',hlt2,hz',hzf',e4,h1,hcf,go_sem];rfl
   refine ak.t 1 [8,7,3,1,2] hlt (by simp only[aF,dX,go_sem]) (by rw[hs1];rfl)
 ·have hlt':¬(i:Int)<p.length:=by omega
  have e:MG c.fs p n i=x4 c.fs p n:=by unfold MG;rw[EQ (by omega),EQ (by omega)]
  rw[e];repeat with_reducible first|refine nz aa ?_|apply ny;simp only[f63,hlt',go_sem];rfl
  exact⟨rfl,rfl,_,rfl,rfl⟩
theorem Ot(c:Ch){i a b:Nat}{f g:Fg}(hok:c.ok=true)(hi:i<2)(hf:c.fs[a]?=some f)(hg:c.fs[b]?=some g):
 ab prog 64 [.agg c.cells,ii (3+(i:Int)),ii (a:Nat),ii (b:Nat)] [] (.ret (.bool (decide (LV i g<LV i f)))) []:=by
 refine ab.of0 hTT func64 rfl rfl ?_;have hcf:=cY c.fs;have hf':(c.fs.map dr)[a]?=some (.agg [ii f.size,ii f.rank,ii f.eve]):=aw hf;have hg':(c.fs.map dr)[b]?=some (.agg [ii g.size,ii g.rank,ii g.eve]):=aw hg;have ha:=(DR.1 hf).1;have hb:=(DR.1 hg).1;have ha':(a:Int)<c.fs.length:=by omega
 have hb':(b:Int)<c.fs.length:=by omega
 have hzf':c.zf≠.n:=fun e=>by rw[bd hok e]at ha;simp at ha
 have:i=0∨i=1:=by omega
 rcases this with rfl|rfl
 ·have e:(3:Int)+((0:Nat):Int)=3:=rfl
  have h1:((3:Int)==3)=true:=rfl;rw[e];have h2:decide (LV 0 g<LV 0 f)=decide (f.rank<g.rank):=by unfold LV;rw[DZ rfl,DZ rfl,FD,Eo,Eo];omega
  rw[h2];repeat with_reducible first|refine nz aa ?_|apply ny;simp only[f64,hf',hg',ha',hb',hzf',h1,hcf,go_sem];rfl
  exact⟨rfl,rfl,_,rfl,rfl⟩
 ·have e:(3:Int)+((1:Nat):Int)=4:=rfl
  have h1:((4:Int)==3)=false:=rfl;rw[e];have h2:decide (LV 1 g<LV 1 f)=decide (g.eve<f.eve):=rfl;rw[h2];repeat with_reducible first|refine nz aa ?_|apply ny;simp only[f64,hf',hg',ha',hb',hzf',h1,hcf,EW,go_sem];rfl
  exact⟨rfl,rfl,_,rfl,rfl⟩
theorem sumI_pos:∀{l:List Int},(∀x∈l,1<=x)->(zF l=0↔l.length=0)
 |[],_=>⟨fun _=>rfl,fun _=>rfl⟩
 |x::l,h=>by
  have h1:=h x DV;have h2:=Mi (l:=l) fun y hy=>by have:=h y (DW _ hy);omega
  constructor
  ·intro e
   have e:x+zF l=0:=e;omega
  ·intro e;simp at e
theorem Wrong_39(c:Ch)(z:Z)(p:List Int)(hok:c.ok=true)(hz:zOk z (p.map ii)=true)(hl:p.length=c.fs.length)(hn:p.length<=1000)(hp:∀x∈p,-1000<=x∧x<=1000)
 (hs:∀f∈c.fs,1<=f.size∧f.size<=1000) (hd:0<=c.depth∧c.depth<=1000) :
 ∃x,ab prog 39 [.agg c.cells,.sl z (p.map ii)] [] (.ret (dV (!rightB c.room c.depth c.fs p) x)) []:=by
 refine ab.ex0 hTT (dV (!rightB c.room c.depth c.fs p)) func39 rfl rfl ?_;have hcf:=cY c.fs;have hcp:=cV p;have h12:=MM z p hz hn hp;have hlb:=Mw (p:=p) (m:=0) (EN 0) (by omega) hp
 have hlb:0<=g4 p∧g4 p<=1001:=hlb;have hbt:bD 0 [PV.sl z (p.map ii)]=true:=ae 0 _ (by simp[ad,PV.closed,cV])
 have hbt2:∀n:Int,bD 0 [PV.agg [ii c.room,ii c.depth,.sl c.zf (c.fs.map dr)],.sl z (p.map ii),ii n]=true:=fun n=>ae 0 _ (by simp[ad,PV.closed,cY,cV])
 have hbt3:∀n a b:Int,bD 0 [PV.agg [ii c.room,ii c.depth,.sl c.zf (c.fs.map dr)],ii n,ii a,ii b]=true:=fun n a b=>ae 0 _ (by simp[ad,PV.closed,cY])
 have h63:=fun n:Int=>Om c z p n hok hz hl hn fun f hf=>by have:=hs f hf;omega
 have hgp:∀n:Int,zF (x4 c.fs p n)=0↔(x4 c.fs p n).length=0:=fun n=>sumI_pos fun s hsm=>by
  obtain⟨f,hf,rfl⟩:=MC hsm;exact(hs f hf).1
 have hd0:(!rightB c.room c.depth c.fs p)=!((((List.range c.depth.toNat).drop 0).all fun n=>decide (zF (x4 c.fs p (n:Nat))<=c.room))&&(((List.range (g4 p).toNat).all fun n=>decide ((x4 c.fs p (n:Nat)).length≠0))&&!LY (c.fs.zip p))):=by
  unfold rightB;rw[GS,ON]
 generalize (!rightB c.room c.depth c.fs p)=d at hd0 ⊢;have hds:LY (c.fs.zip p)=Mm (c.fs.zip p) 0:=Nn _;generalize LY (c.fs.zip p)=dis at hd0 hds;generalize hZ:c.fs.zip p=zz at hds;have hzl:zz.length=p.length:=by rw[←hZ,List.length_zip];omega
 have hgap:((List.range (g4 p).toNat).all fun n=>decide ((x4 c.fs p (n:Nat)).length≠0))=(((List.range (g4 p).toNat).drop 0).all fun n=>decide ((x4 c.fs p (n:Nat)).length≠0)):=rfl
 generalize hG:((List.range (g4 p).toNat).all fun n=>decide ((x4 c.fs p (n:Nat)).length≠0))=gap at hd0 hgap
 obtain⟨D,hD⟩:∃D:Nat,c.depth=D:=⟨c.depth.toNat,by omega⟩
 obtain⟨K,hK⟩:∃K:Nat,g4 p=K:=⟨(g4 p).toNat,by omega⟩
 have hDn:c.depth.toNat=D:=by omega
 have hKn:(g4 p).toNat=K:=by omega
 rw[hDn]at hd0;rw[hKn]at hgap;rw[hK]at h12;repeat with_reducible first|refine nz aa ?_|apply ny;simp only[f39,hcf,go_sem];rfl
 refine am.keep [6,5,4,2,1] (by simp only[go_sem];rfl) ?_
 refine am.loop (fun i s'=>d=(!((((List.range D).drop i).all fun n=>decide (zF (x4 c.fs p (n:Nat))<=c.room))&&(gap&&!dis)))∧s'=⟨[(6,ii (i:Nat)),(5,.bool false),(4,.bp 1 0),(2,.bp 0 0),(1,.sl z (p.map ii))],76,[.var c.cells false,.var [ii 0,ii 0,ii 0] false]⟩) D ⟨hd0,by first|(simp only[go_sem];first|done|rfl)|rfl⟩ ?_
 clear hd0;rintro i _ hi ⟨hd1,rfl⟩;by_cases hlt:i<D
 ·have hlt':(i:Int)<c.depth:=by omega
  have ei:=wIs i (by omega)
  rw[F1 (Lz hlt)]at hd1;have h63:=h63 (i:Int);have hbt2:=hbt2 (i:Int);generalize zF (x4 c.fs p (i:Int))=sm at hd1 h63;by_cases hsm:sm<=c.room
  ·have hsm':¬c.room<sm:=by omega
   rw[Ej hsm,EJ]at hd1;repeat with_reducible first|refine nz (aj aa (ent func63 rfl) h63 hbt2) ?_|apply ny;simp only[f39,eA,hlt',hsm',ei,EW,hcf,hcp,go_sem];rfl
   refine ak.t 2 [6,5,4,2,1] hlt (by simp only[aF,dX,go_sem]) ⟨hd1,rfl⟩
  ·have hsm':c.room<sm:=by omega
   rw[Ei hsm,Gj]at hd1;repeat with_reducible first|refine nz (aj aa (ent func63 rfl) h63 hbt2) ?_|apply ny;simp only[f39,eA,hlt',hsm',ei,EW,hcf,hcp,go_sem];rfl
   exact⟨rfl,rfl,_,rfl,(1,(i:Int),0),by rw[hd1];rfl⟩
 ·have hlt':¬(i:Int)<c.depth:=by omega
  have hd1:d=(!(((((List.range K).drop 0).all fun n=>decide ((x4 c.fs p (n:Nat)).length≠0)))&&!dis)):=by
   rw[hd1,Ln (by simp;omega),EJ,←hgap]
  repeat with_reducible first|refine nz aa ?_|apply ny;simp only[f39,hlt',hcf,hcp,go_sem];rfl
  refine am.keep [7,5,4,2,1] (by simp only[go_sem];rfl) ?_
  refine am.loop (fun j s'=>d=(!((((List.range K).drop j).all fun n=>decide ((x4 c.fs p (n:Nat)).length≠0))&&!dis))∧s'=⟨[(7,ii (j:Nat)),(5,.bool false),(4,.bp 1 0),(2,.bp 0 0),(1,.sl z (p.map ii))],76,[.var c.cells false,.var [ii 0,ii 0,ii 0] false]⟩) K ⟨hd1,by first|(simp only[go_sem];first|done|rfl)|rfl⟩ ?_
  clear hd1;rintro j _ hj ⟨hd1,rfl⟩;by_cases hjl:j<K
  ·have hjl':(j:Int)<(K:Int):=by omega
   have ej:=wIs j (by omega)
   rw[F1 (Lz hjl)]at hd1;have h63:=h63 (j:Int);have hbt2:=hbt2 (j:Int);have hgp:=hgp (j:Int);generalize zF (x4 c.fs p (j:Int))=sm at hgp h63;by_cases h0:(x4 c.fs p (j:Int)).length=0
   ·have hs0:(sm==0)=true:=by simp[hgp.2 h0]
    rw[Ei (by omega),Gj]at hd1
    repeat with_reducible first|refine nz (aj (aj aa (ent func12 rfl) h12 hbt) (ent func63 rfl) h63 hbt2) ?_|apply ny;simp only[f39,eA,hjl',hs0,hcf,hcp,go_sem];rfl
    exact⟨rfl,rfl,_,rfl,(2,(j:Int),0),by rw[hd1];rfl⟩
   ·have hs0:(sm==0)=false:=by rw[EF];exact fun e=>h0 (hgp.1 e)
    rw[Ej h0,EJ]at hd1;repeat with_reducible first|refine nz (aj (aj aa (ent func12 rfl) h12 hbt) (ent func63 rfl) h63 hbt2) ?_|apply ny;simp only[f39,eA,hjl',hs0,ej,hcf,hcp,go_sem];rfl
    refine ak.t 2 [7,5,4,2,1] hjl (by simp only[aF,dX,go_sem]) ⟨hd1,rfl⟩
  ·have hjl':¬(j:Int)<(K:Int):=by omega
   have hd1:d=Mm zz 0:=by rw[hd1,Ln (by simp;omega),EJ,Bool.not_not,hds]
   clear hds hgap;repeat with_reducible first|refine nz (aj aa (ent func12 rfl) h12 hbt) ?_|apply ny;simp only[f39,eA,hjl',hcf,hcp,go_sem];rfl
   refine am.keep [8,5,4,2,1] (by simp only[go_sem];rfl) ?_
   refine am.loop (fun r s'=>d=Mm zz r∧s'=⟨[(8,ii (3+(r:Int))),(5,.bool false),(4,.bp 1 0),(2,.bp 0 0),(1,.sl z (p.map ii))],76,[.var c.cells false,.var [ii 0,ii 0,ii 0] false]⟩) 2 ⟨hd1,by first|(simp only[Int.natCast_zero,Int.add_zero,go_sem];first|done|rfl)|rfl⟩ ?_
   clear hd1;rintro r _ hr ⟨hdr,rfl⟩;by_cases hr2:r<2
   ·have hr2':3+(r:Int)<=4:=by omega
    have er:IntKind.i64.wrap (3+(r:Int)+1)=3+((r+1:Nat):Int):=by rw[ai (by omega) (by omega)];omega
    rw[Mr zz hr2]at hdr;generalize hLt:Mm zz (r+1)=later at hdr;repeat with_reducible first|refine nz aa ?_|apply ny;simp only[f39,hr2',hcf,hcp,go_sem];rfl
    refine am.keep [9,8,5,4,2,1] (by simp only[go_sem];rfl) ?_
    refine am.loop (fun a s'=>d=(ML (LV r) zz (zz.drop a)||later)∧s'=⟨[(9,ii (a:Nat)),(8,ii (3+(r:Int))),(5,.bool false),(4,.bp 1 0),(2,.bp 0 0),(1,.sl z (p.map ii))],76,[.var c.cells false,.var [ii 0,ii 0,ii 0] false]⟩) p.length ⟨hdr,by first|(simp only[go_sem];first|done|rfl)|rfl⟩ ?_
    clear hdr;rintro a _ ha ⟨hda,rfl⟩;by_cases hal:a<p.length
    ·obtain⟨f,hf⟩:∃f,c.fs[a]?=some f:=⟨_,DT (by omega)⟩
     obtain⟨x,hx⟩:=gex hal;have hx':(p.map ii)[a]?=some (ii x):=aw hx;have hzg:zz[a]?=some (f,x):=by rw[←hZ];exact L4 hf hx
     have hal':(a:Int)<p.length:=by omega
     have hz':z≠.n:=fun e=>by rw[bd hz e]at hal;simp at hal
     have ea:=wIs a (by omega)
     unfold ML at hda;rw[L2 hzg]at hda;have hda:d=(rowV (LV r) (f,x) zz||(ML (LV r) zz (zz.drop (a+1))||later)):=by rw[hda,Bool.or_assoc];rfl
     generalize hLa:(ML (LV r) zz (zz.drop (a+1))||later)=latA at hda;repeat with_reducible first|refine nz aa ?_|apply ny;simp only[f39,hal',hcf,hcp,go_sem];rfl
     refine am.keep [10,9,8,5,4,2,1] (by simp only[go_sem];rfl) ?_
     refine am.loop (fun b s'=>d=((zz.drop b).any (vB (LV r) (f,x))||latA)∧s'=⟨[(10,ii (b:Nat)),(9,ii (a:Nat)),(8,ii (3+(r:Int))),(5,.bool false),(4,.bp 1 0),(2,.bp 0 0),(1,.sl z (p.map ii))],76,[.var c.cells false,.var [ii 0,ii 0,ii 0] false]⟩) p.length ⟨hda,by first|(simp only[go_sem];first|done|rfl)|rfl⟩ ?_
     clear hda;rintro b _ hb ⟨hdb,rfl⟩;by_cases hbl:b<p.length
     ·obtain⟨g,hg⟩:∃f,c.fs[b]?=some f:=⟨_,DT (by omega)⟩
      obtain⟨y,hy⟩:∃x,p[b]?=some x:=⟨_,DT hbl⟩;have hy':(p.map ii)[b]?=some (ii y):=aw hy;have hzb:zz[b]?=some (g,y):=by rw[←hZ];exact L4 hg hy
      have hbl':(b:Int)<p.length:=by omega
      have eb:=wIs b (by omega)
      have h64:=Ot c hok hr2 hf hg;have hbt3:=hbt3 (3+(r:Int)) a b;rw[L2 hzb,Bool.or_assoc]at hdb;by_cases hxy:x<y
      ·have hv:vB (LV r) (f,x) (g,y)=decide (LV r g<LV r f):=by unfold vB;simp[hxy]
       rw[hv]at hdb;generalize decide (LV r g<LV r f)=v at hdb h64;cases v
       ·rw[IS]at hdb
        repeat with_reducible first|refine nz (aj aa (ent func64 rfl) h64 hbt3) ?_|apply ny;simp only[f39,eA,hbl',hz',hx',hy',hxy,eb,hcf,hcp,go_sem];rfl
        refine ak.t 2 [10,9,8,5,4,2,1] hbl (by simp only[aF,dX,go_sem]) ⟨hdb,rfl⟩
       ·rw[Bool.true_or]at hdb
        repeat with_reducible first|refine nz (aj aa (ent func64 rfl) h64 hbt3) ?_|apply ny;simp only[f39,eA,hbl',hz',hx',hy',hxy,hcf,hcp,go_sem];rfl
        exact⟨rfl,rfl,_,rfl,(3+(r:Int),(a:Int),(b:Int)),by rw[hdb];rfl⟩
      ·have hv:vB (LV r) (f,x) (g,y)=false:=by unfold vB;simp[hxy]
       rw[hv,IS]at hdb;repeat with_reducible first|refine nz aa ?_|apply ny;simp only[f39,hbl',hz',hx',hy',hxy,eb,hcf,hcp,go_sem];rfl
       refine ak.t 2 [10,9,8,5,4,2,1] hbl (by simp only[aF,dX,go_sem]) ⟨hdb,rfl⟩
     ·have hbl':¬(b:Int)<p.length:=by omega
      rw[Mu (by omega),IS]at hdb
      repeat with_reducible first|refine nz aa ?_|apply ny;simp only[f39,hbl',ea,go_sem];rfl
      refine ak.t 2 [9,8,5,4,2,1] hal (by simp only[aF,dX,go_sem]) ⟨by rw[hdb,hLa],rfl⟩
    ·have hal':¬(a:Int)<p.length:=by omega
     have hda:d=later:=by rw[hda];unfold ML;rw[Mu (by omega),IS]
     repeat with_reducible first|refine nz aa ?_|apply ny;simp only[f39,hal',er,go_sem];rfl
     refine ak.t 2 [8,5,4,2,1] hr2 (by simp only[aF,dX,go_sem]) ⟨by rw[hda,hLt],rfl⟩
   ·have hr2':¬3+(r:Int)<=4:=by omega
    have hdr:d=false:=by rw[hdr,show r=2 by omega];rfl
    repeat with_reducible first|refine nz aa ?_|apply ny;simp only[f39,hr2',go_sem];rfl
    exact⟨rfl,rfl,_,rfl,(0,0,0),by rw[hdr];rfl⟩
theorem Right_15(c:Ch)(z:Z)(p:List Int)(hok:c.ok=true)(hz:zOk z (p.map ii)=true)(hl:p.length=c.fs.length)(hn:p.length<=1000)(hp:∀x∈p,-1000<=x∧x<=1000)
 (hs:∀f∈c.fs,1<=f.size∧f.size<=1000) (hd:0<=c.depth∧c.depth<=1000) :
 ab prog 15 [.agg c.cells,.sl z (p.map ii)] [] (.ret (.bool (rightB c.room c.depth c.fs p))) []:=by
 refine ab.of0 hTT func15 rfl rfl ?_;have hcf:=cY c.fs;have hcp:=cV p;obtain⟨x,h39⟩:=Wrong_39 c z p hok hz hl hn hp hs hd;have hbt:bD 0 [PV.agg [ii c.room,ii c.depth,.sl c.zf (c.fs.map dr)],.sl z (p.map ii)]=true:=ae 0 _ (by simp[ad,PV.closed,cY,cV])
 generalize rightB c.room c.depth c.fs p=d at h39 ⊢;cases d
 all_goals
  repeat with_reducible first|refine nz (aj aa (ent func39 rfl) h39 hbt) ?_|apply ny;simp only[f15,eA,dV,hcf,hcp,go_sem];rfl
  exact⟨rfl,rfl,_,rfl,rfl⟩
theorem With_14(c:Ch)(f:Fg)(hz:(c.zf=.n∧c.fs=[])∨(c.zf=.a∧c.fs≠[]))(hl:c.fs.length<=1000):ab prog 14 [.agg c.cells,dr f] [] (.ret (.agg (c.more f).cells)) []:=by
 refine ab.ofF hTT func14 rfl rfl ?_;have hcf:=cY c.fs;have hef:dr f=.agg [ii f.size,ii f.rank,ii f.eve]:=rfl;rw[hef];obtain⟨rm,dp,zf,fs⟩:=c;dsimp only at *;obtain⟨W,hW⟩:∃W,W=(fs++[f]).map dr:=⟨_,rfl⟩;have hcW:ad W=true:=by rw[hW];exact cY _
 have hWl:W.length=fs.length+1:=by rw[hW,DX];simp
 have hWe:fs.map dr++[.agg [ii f.size,ii f.rank,ii f.eve]]=W:=by rw[hW,Ec];rfl
 have hXc:(Ch.more ⟨rm,dp,zf,fs⟩ f).cells=[ii rm,ii dp,.sl .a W]:=by rw[hW];rfl
 rw[hXc];rcases hz with ⟨rfl,rfl⟩|⟨rfl,hz2⟩
 case' inl =>
  have r1:(1:Nat)*24<=140737488355328:=by omega
  have r2:1<=maxLen:=by unfold maxLen;omega
  repeat with_reducible first|(fail_if_success refine am.seq (x:=.region 3 _ _) ?_);(fail_if_success show am _ (.region 3 _ _) _ _);refine nz aa ?_|apply ny;simp only[f14,r1,r2,hcf,go_sem];rfl
  refine am.keep [12,5,4] (by simp only[go_sem];rfl) ?_
  have hW1:W=[.agg [ii f.size,ii f.rank,ii f.eve]]:=hWe.symm;refine am.freezeZ (tm':=[(12,.sl .a W),(5,.bp 3 0),(4,.bp 2 0)]) (sg':=[.var [ii rm,ii dp,.sl .n []] false,.var [ii f.size,ii f.rank,ii f.eve] false,.var [ii 0,ii 0,.sl .n []] false,.var [ii rm,ii dp,.ms 5 1] false,.dead,.row false 44 3 W true]) 12 5 rfl rfl rfl rfl (by rw[hW1];rfl) (by rw[hW1];rfl) ?_
  refine am.varView 3 2 (c:=.ms 5 1) (c':=.sl .a W) (sg':=[.var [ii rm,ii dp,.sl .n []] false,.var [ii f.size,ii f.rank,ii f.eve] false,.var [ii 0,ii 0,.sl .n []] false,.var [ii rm,ii dp,.sl .a W] false,.dead,.row false 44 3 W true]) rfl rfl (show(if W.length=1 then some (PV.sl .a W)else none)=_ by rw[DZ (by rw[hWl];rfl)]) rfl ?_
 case' inr =>
  have q1:fs.length*24<=140737488355328:=by omega
  have q2:fs.length<=maxLen:=by unfold maxLen;omega
  have q3:(fs.length+1)*24<=140737488355328:=by omega
  have q4:fs.length+1<=maxLen:=by unfold maxLen;omega
  have hne:(fs.map dr).isEmpty=false:=by
   cases h:fs with
   |nil=>exact absurd h hz2
   |cons x l=>rfl
  have hal:((fs.map dr).all fun y=>y.cells.length==3)=true:=by rw[FS];exact D7.2 fun _ _=>rfl
  simp only[PV.cells]at hal;repeat with_reducible first|(fail_if_success refine am.seq (x:=.region 3 _ _) ?_);(fail_if_success show am _ (.region 3 _ _) _ _);refine nz aa ?_|apply ny;simp only[f14,hne,hal,q1,q2,q3,q4,hcf,go_sem];rfl
  refine am.keep [12,5,4] (by simp only[go_sem];rfl) ?_
  refine am.freezeZ (tm':=[(12,.sl .a W),(5,.bp 3 0),(4,.bp 2 0)]) (sg':=[.var [ii rm,ii dp,.sl .a (fs.map dr)] false,.var [ii f.size,ii f.rank,ii f.eve] false,.var [ii 0,ii 0,.sl .n []] false,.var [ii rm,ii dp,.ms 4 (fs.length+1)] false,.row false 44 3 W true,.dead]) 12 4 rfl rfl (by rw[hWe];exact hWl) (by rw[hWe];exact hcW) (by rw[hWe];rfl) (by rw[hWe];rfl) ?_
  refine am.varView 3 2 (c:=.ms 4 (fs.length+1)) (c':=.sl .a W) (sg':=[.var [ii rm,ii dp,.sl .a (fs.map dr)] false,.var [ii f.size,ii f.rank,ii f.eve] false,.var [ii 0,ii 0,.sl .n []] false,.var [ii rm,ii dp,.sl .a W] false,.row false 44 3 W true,.dead]) rfl rfl (show(if W.length=fs.length+1 then some (PV.sl .a W)else none)=_ by rw[DZ hWl]) rfl ?_
 all_goals
  repeat with_reducible first|refine nz aa ?_|apply ny;simp only[f14,hcf,hcW,go_sem];rfl
  exact⟨rfl,rfl,_,rfl,aq (v:=.agg [ii rm,ii dp,.sl .a W]) (by simp[PV.closed,ad,hcW])⟩
end Go.Pv
