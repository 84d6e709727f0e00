import Derived.Test.YtmebonambbhehaaGreatQtRef
set_option linter.all false
open Go.Proofs.Tryz
namespace Go.Pv
open Go Go.RowKit Go.Proofs
set_option maxRecDepth 200000
set_option maxHeartbeats 8000000
theorem in_44(x a b:Int):ab prog 44 [ii x,ii a,ii b] [] (.ret (.bool (inB x a b))) []:=by
 refine ab.of0 hTT func44 rfl rfl ?_;unfold inB;by_cases h1:a<=x <;> by_cases h2:x<=b
 all_goals
  repeat with_reducible first|refine nz aa ?_|apply ny;simp only[f44,EO,h1,h2,go_sem];rfl
  refine⟨rfl,rfl,_,rfl,?_⟩;simp only[h1,h2];rfl
theorem Mz:dU prog 44 cin:=dU.of0 (ent func44 rfl) fun args sg r sg' h=>by
 unfold cin at h;split at h <;> cases h
 exact⟨_,rfl,rfl,rfl,in_44 _ _ _⟩
def cfLq:CallF:=aE cf0 44 cin
theorem Mx:CallFOk prog cfLq:=ah aa Mz
theorem NW(s:Int×Int)(h:Lw s=true):ab prog 45 [.agg [ii s.1,ii s.2]] [] (.ret (.bool true)) []:=by
 refine ab.of0 hTT func45 rfl rfl ?_;unfold Lw at h;rw[D3,D3,Eo]at h;obtain⟨⟨h1,h2⟩,h3⟩:=h;have k1:=bm.1 h1;have k2:=bm.1 h2;have e1:IntKind.i64.wrap (s.2-s.1)=s.2-s.1:=ai (by omega) (by omega)
 repeat with_reducible first|refine nz Mx ?_|apply ny;simp only[f45,cfLq,cin,h1,h2,h3,e1,go_sem];rfl
 exact⟨rfl,rfl,_,rfl,rfl⟩
def c45L:Tb_
 |[.agg [.int .i64 a,.int .i64 b]],sg=>if Lw (a,b)=true then some (.ret (.bool true),sg)else none
 |_,_=>none
theorem c45L_ok:dU prog 45 c45L:=dU.of0 (ent func45 rfl) fun args sg r sg' h=>by
 unfold c45L at h;split at h <;> try (cases h;done)
 split at h <;> cases h
 rename_i hs;exact⟨_,rfl,rfl,rfl,NW _ hs⟩
def cfLq2:CallF:=aE cfLq 45 c45L
theorem cfLq2_ok:CallFOk prog cfLq2:=ah Mx c45L_ok
theorem size_48(n:Int)(h:inB n 1 500=true):ab prog 48 [ii n] [] (.ret (.bool false)) []:=by
 refine ab.of0 hTT func48 rfl rfl ?_;repeat with_reducible first|refine nz Mx ?_|apply ny;simp only[f48,cfLq,cin,h,go_sem];rfl
 exact⟨rfl,rfl,_,rfl,rfl⟩
theorem kind_50(k:Int)(h:LT k=true):ab prog 50 [ii k] [] (.ret (.bool false)) []:=by
 refine ab.of0 hTT func50 rfl rfl ?_;unfold LT at h;rw[Fk,Eo,Eo]at h;rcases h with rfl|rfl
 ·have h1:((1:Int) != 1)=false:=rfl
  repeat with_reducible first|refine nz aa ?_|apply ny;simp only[f50,h1,go_sem];rfl
  exact⟨rfl,rfl,_,rfl,rfl⟩
 ·have h1:((2:Int) != 1)=true:=rfl
  have h2:((2:Int) != 2)=false:=rfl;repeat with_reducible first|refine nz aa ?_|apply ny;simp only[f50,h1,h2,go_sem];rfl
  exact⟨rfl,rfl,_,rfl,rfl⟩
theorem find_52(n:Int)(h:inB n (-1) 1000=true):ab prog 52 [ii n] [] (.ret (.bool false)) []:=by
 refine ab.of0 hTT func52 rfl rfl ?_;repeat with_reducible first|refine nz Mx ?_|apply ny;simp only[f52,cfLq,cin,h,go_sem];rfl
 exact⟨rfl,rfl,_,rfl,rfl⟩
theorem any_f{α:Type}(l:List α):(l.any fun _=>false)=false:=by simp
theorem bad_46{S:List Box}{k:Nat}{r:Rg}(q:Qi)(hS:OwnOk 0 S)(hk:S[k]?=some (.var r.cells false))(hz:zOk q.1 (q.2.map ii)=true)(hq:LO r.kinds.length q=true)(hn:q.2.length<=1000):ab prog 46 [sf q,.bp k 0] S (.ret (.bool false)) S:=by
 have hS':∀b∈S,b.Lt S.length:=fun b hb=>by have:=hS b hb;simpa using this
 refine ab.ofB hTT func46 rfl rfl ?_ rfl hS' (th _ _|>.2 trivial);unfold LO at hq;rw[D3,Eo,D7]at hq;have heq:sf q=.sl q.1 (q.2.map ii):=rfl;rw[heq];have h1:((q.2.length:Int) != (r.kinds.length:Int))=false:=by rw[hq.1];simp
 have hcall:=CK (g:=48) (cs:=[]) (S:=S) q.1 q.2 (fun _=>false) (ent func48 rfl) hS rfl (fun e=>bd hz e) (by omega) fun n hnm=>(size_48 n (hq.2 n hnm)).frame (bw 0 _ rfl) _
 rw[any_f]at hcall;repeat with_reducible first|refine nz (ar aa (ent func47 rfl) hcall (SameLoops.refl _)) ?_|apply ny;simp only[f46,cp,bl,hk,h1,go_sem];rfl
 exact⟨rfl,SameLoops.refl _,rfl,[],by simp⟩
theorem L5{r:Rg}(h:rgBL r=true):inB r.kinds.length 1 6=true∧inB r.hides.length 1 6=true∧(∀k∈r.kinds,LT k=true)∧(∀q∈r.hides,LO r.kinds.length q=true)∧Lw r.al=true∧Lw r.ac=true∧inB r.off 1 5=true∧inB r.mends 0 2=true:=by
 unfold rgBL at h;simp only[D3,D7]at h;obtain⟨⟨⟨⟨⟨⟨⟨h1,h2⟩,h3⟩,h4⟩,h5⟩,h6⟩,h7⟩,h8⟩:=h;exact⟨h1,h2,h3,h4,h5,h6,h7,h8⟩
theorem ME(r:Rg)(hok:r.ok=true)(hb:rgBL r=true):ab prog 25 [.agg r.cells] [] (.ret (.bool true)) []:=by
 refine ab.of0 hTT func25 rfl rfl ?_;obtain⟨h1,h2,h3,h4,h5,h6,h7,h8⟩:=L5 hb;have k1:=bm.1 h1;have k2:=bm.1 h2;have hck:=cV r.kinds;have hch:=nB r.hides;have hS:OwnOk 0 [Box.var r.cells false]:=fun x hx=>by
  simp only[D6,Eb,EM]at hx;subst hx;exact vLt (Md r)
 have hc1:=M7 (g:=50) (cs:=[]) (S:=[Box.var r.cells false]) r.zk r.kinds (fun _=>false) (ent func50 rfl) hS rfl (fun e=>bd (Rg.ok_k hok) e) (by omega) fun k hk=>(kind_50 k (h3 k hk)).frame (bw 0 _ rfl) _
 have hql:∀q∈r.hides,q.2.length<=1000:=fun q hq=>by
  have:=h4 q hq
  unfold LO at this;rw[D3,Eo]at this;omega
 have hc2:=Na (g:=46) (cs:=[.bp 0 0]) (S:=[Box.var r.cells false]) r.zh r.hides (fun _=>false) (ent func46 rfl) hS rfl (fun e=>bd (Rg.ok_h hok) e) (by omega) fun q hq=>bad_46 q hS rfl (D7.1 (Rg.ok_q hok) q hq) (h4 q hq) (hql q hq)
 rw[any_f]at hc1 hc2;have s1:Lw (r.al.1,r.al.2)=true:=h5;have s2:Lw (r.ac.1,r.ac.2)=true:=h6;repeat with_reducible first|refine nz (ar (ar cfLq2_ok (ent func49 rfl) hc1 (SameLoops.refl _)) (ent func51 rfl) hc2 (SameLoops.refl _)) ?_|apply ny;simp only[f25,cp,cfLq2,cfLq,cin,c45L,s1,s2,bl,h1,h2,h7,h8,hck,hch,go_sem];rfl
 exact⟨rfl,rfl,_,rfl,rfl⟩
theorem Of(r:Rg)(z:Z)(f:List Int)(hz:zOk z (f.map ii)=true)(hb:findB r f=true)(hn:r.kinds.length<=1000):ab prog 26 [.agg r.cells,.sl z (f.map ii)] [] (.ret (.bool true)) []:=by
 refine ab.of0 hTT func26 rfl rfl ?_;unfold findB at hb;rw[D3,Eo,D7]at hb;have hck:=cV r.kinds;have hch:=nB r.hides;have h1:((f.length:Int)==(r.kinds.length:Int))=true:=by rw[hb.1];simp
 have hS:OwnOk 0 [Box.var r.cells false]:=fun x hx=>by
  simp only[D6,Eb,EM]at hx;subst hx;exact vLt (Md r)
 have hcall:=CK (g:=52) (cs:=[]) (S:=[Box.var r.cells false]) z f (fun _=>false) (ent func52 rfl) hS rfl (fun e=>bd hz e) (by omega) fun n hnm=>(find_52 n (hb.2 n hnm)).frame (bw 0 _ rfl) _
 rw[any_f]at hcall;repeat with_reducible first|refine nz (ar aa (ent func47 rfl) hcall (SameLoops.refl _)) ?_|apply ny;simp only[f26,cp,bl,h1,hck,hch,go_sem];rfl
 exact⟨rfl,rfl,_,rfl,rfl⟩
theorem NX(a:Int)(h1:-10000000<=a)(h2:a<=10000000):-10000000<=a.tdiv 1000∧a.tdiv 1000<=10000000:=by
 by_cases h:0<=a
 ·rw[Int.tdiv_eq_ediv_of_nonneg h]
  omega
 ·have e:a = -(-a):=by omega
  rw[e,Int.neg_tdiv,Int.tdiv_eq_ediv_of_nonneg (by omega)]
  omega
theorem mul_bd{s r:Int}(hs:0<=s∧s<=500)(hr:0<=r∧r<=1300):0<=s*r∧s*r<=650000:=by
 refine⟨Int.mul_nonneg hs.1 hr.1,?_⟩;have h1:s*r<=500*r:=Int.mul_le_mul_of_nonneg_right hs.2 hr.1;omega
theorem Mt(r:Rg)(n:Nat)(z:Z)(f:List Int)(q:Qi)(m:Nat)(s rate:Int)(hok:r.ok=true)(hq:r.hides[n]?=some q)(hs:q.2[m]?=some s)(hsb:0<=s∧s<=500)(hrb:0<=rate∧rate<=1300)(ho:0<=r.off∧r.off<=5):
 ab prog 150 [.agg (fdC r (n:Nat) z f),ii (m:Nat),ii rate] [] (.ret (.agg [ii (unL r s rate),ii (unH r s rate)])) []:=by
 refine ab.of0 hTT func150 rfl rfl ?_;have hck:=cV r.kinds;have hch:=nB r.hides;have hcf:=cV f;have hqz:=qsB_at (Rg.ok_q hok) hq;have hq':(r.hides.map sf)[n]?=some (.sl q.1 (q.2.map ii)):=aw hq;have hs':(q.2.map ii)[m]?=some (ii s):=aw hs;have hn:=(DR.1 hq).1;have hm:=(DR.1 hs).1;have hzh:r.zh≠.n:=fun e=>by rw[bd (Rg.ok_h hok) e]at hn;simp at hn
 have hzq:q.1≠.n:=fun e=>by rw[bd hqz e]at hm;simp at hm
 have hn':(n:Int)<r.hides.length:=by omega
 have hm':(m:Int)<q.2.length:=by omega
 have hmb:=mul_bd hsb hrb;unfold unL unH;obtain⟨L,hL⟩:∃L,L=s*rate:=⟨_,rfl⟩;rw[←hL]at hmb ⊢;have e1:IntKind.i64.wrap (s*rate)=L:=by rw[←hL];exact ai (by omega) (by omega)
 have e2:IntKind.i64.wrap (1000*r.off)=1000*r.off:=ai (by omega) (by omega)
 have e3:IntKind.i64.wrap (L-1000*r.off)=L-1000*r.off:=ai (by omega) (by omega)
 have e4:IntKind.i64.wrap (L-1000*r.off+999)=L-1000*r.off+999:=ai (by omega) (by omega)
 have e5:IntKind.i64.wrap (L+1000*r.off)=L+1000*r.off:=ai (by omega) (by omega)
 have b1:=NX (L-1000*r.off+999) (by omega) (by omega)
 have b2:=NX (L+1000*r.off) (by omega) (by omega)
 have e6:IntKind.i64.wrap ((L-1000*r.off+999).tdiv 1000)=(L-1000*r.off+999).tdiv 1000:=ai (by omega) (by omega)
 have e7:IntKind.i64.wrap ((L+1000*r.off).tdiv 1000)=(L+1000*r.off).tdiv 1000:=ai (by omega) (by omega)
 have hk0:(1000:Int)≠0:=by decide
 by_cases h1:(0:Int)<(L-1000*r.off+999).tdiv 1000
 ·have m1:max 0 ((L-1000*r.off+999).tdiv 1000)=(L-1000*r.off+999).tdiv 1000:=by omega
  rw[m1];by_cases h2:(L+1000*r.off).tdiv 1000<1000
  ·have m2:min 1000 ((L+1000*r.off).tdiv 1000)=(L+1000*r.off).tdiv 1000:=by omega
   rw[m2];repeat with_reducible first|refine nz aa ?_|apply ny;simp only[f150,hq',hs',hn',hm',hzh,hzq,e1,e2,e3,e4,e5,e6,e7,hk0,h1,h2,EW,hck,hch,hcf,go_sem];rfl
   exact⟨rfl,rfl,_,rfl,rfl⟩
  ·have m2:min 1000 ((L+1000*r.off).tdiv 1000)=1000:=by omega
   rw[m2];repeat with_reducible first|refine nz aa ?_|apply ny;simp only[f150,hq',hs',hn',hm',hzh,hzq,e1,e2,e3,e4,e5,e6,e7,hk0,h1,h2,EW,hck,hch,hcf,go_sem];rfl
   exact⟨rfl,rfl,_,rfl,rfl⟩
 ·have m1:max 0 ((L-1000*r.off+999).tdiv 1000)=0:=by omega
  rw[m1];by_cases h2:(L+1000*r.off).tdiv 1000<1000
  ·have m2:min 1000 ((L+1000*r.off).tdiv 1000)=(L+1000*r.off).tdiv 1000:=by omega
   rw[m2];repeat with_reducible first|refine nz aa ?_|apply ny;simp only[f150,hq',hs',hn',hm',hzh,hzq,e1,e2,e3,e4,e5,e6,e7,hk0,h1,h2,EW,hck,hch,hcf,go_sem];rfl
   exact⟨rfl,rfl,_,rfl,rfl⟩
  ·have m2:min 1000 ((L+1000*r.off).tdiv 1000)=1000:=by omega
   rw[m2];repeat with_reducible first|refine nz aa ?_|apply ny;simp only[f150,hq',hs',hn',hm',hzh,hzq,e1,e2,e3,e4,e5,e6,e7,hk0,h1,h2,EW,hck,hch,hcf,go_sem];rfl
   exact⟨rfl,rfl,_,rfl,rfl⟩
structure FdOk(r:Rg)(n:Nat)(q:Qi)(z:Z)(f:List Int):Prop where
 ok:r.ok=true
 hq:r.hides[n]?=some q
 hl:q.2.length=r.kinds.length
 hf:f.length=r.kinds.length
 hz:zOk z (f.map ii)=true
 size:∀s∈q.2,0<=s∧s<=500
 off:0<=r.off∧r.off<=5
 kl:r.kinds.length<=6
 kb:∀k∈r.kinds,1<=k∧k<=2
theorem M9{r:Rg}{n:Nat}{q:Qi}{z:Z}{f:List Int}(h:FdOk r n q z f)(m:Nat)(x s rate:Int)(hs:q.2[m]?=some s)(hx:f[m]?=some x)(hrb:0<=rate∧rate<=1300):
 ab prog 132 [.agg (fdC r (n:Nat) z f),ii (m:Nat),ii rate] [] (.ret (.bool (chgB r x s rate))) []:=by
 refine ab.of0 hTT func132 rfl rfl ?_;have hck:=cV r.kinds;have hch:=nB r.hides;have hcf:=cV f;have h150:=Mt r n z f q m s rate h.ok h.hq hs (h.size s (DU hs)) hrb h.off;have hbt:bD 0 [PV.agg (fdC r (n:Nat) z f),ii (m:Nat),ii rate]=true:=ae 0 _ (by simp[ad,PV.closed,nB,cV])
 have hx':(f.map ii)[m]?=some (ii x):=aw hx;have hm:=(DR.1 hx).1;have hzf:z≠.n:=fun e=>by rw[bd h.hz e]at hm;simp at hm
 have hm':(m:Int)<f.length:=by omega
 unfold chgB;generalize unL r s rate=lo at h150 ⊢;generalize unH r s rate=hi at h150 ⊢;by_cases h0:0<=x
 ·rw[Ej h0,EJ]
  cases hb:inB x lo hi
  all_goals
   repeat with_reducible first|refine nz (ah (aj aa (ent func150 rfl) h150 hbt) Mz) ?_|apply ny;simp only[f132,aE,cin,eA,hx',hm',hzf,h0,hb,EO,hck,hch,hcf,go_sem];rfl
   exact⟨rfl,rfl,_,rfl,rfl⟩
 ·rw[Ei h0,Gj]
  repeat with_reducible first|refine nz (ah (aj aa (ent func150 rfl) h150 hbt) Mz) ?_|apply ny;simp only[f132,aE,cin,eA,hx',hm',hzf,h0,EO,hck,hch,hcf,go_sem];rfl
  exact⟨rfl,rfl,_,rfl,rfl⟩
theorem kind_131(k:Int)(hk:1<=k∧k<=2):ab prog 131 [ii k] [] (.ret (ii (k-1))) []:=by
 refine ab.of0 hTT func131 rfl rfl ?_;have e1:IntKind.i64.wrap (k-1)=k-1:=ai (by omega) (by omega)
 repeat with_reducible first|refine nz aa ?_|apply ny;simp only[f131,e1,go_sem];rfl
 exact⟨rfl,rfl,_,rfl,rfl⟩
def M1(l:List Nat):List Int:=l.map fun n:Nat=>(n:Int)
theorem Nl{r:Rg}{n:Nat}{q:Qi}{z:Z}{f:List Int}(h:FdOk r n q z f)(k rate:Int)(hrb:0<=rate∧rate<=1300):
 ab prog 104 [.agg (fdC r (n:Nat) z f),ii k,ii rate] [] (.ret (pvN (M1 (Mk r q.2 f k rate r.kinds.length)))) []:=by
 refine ab.ofF hTT func104 rfl rfl ?_;have hck:=cV r.kinds;have hch:=nB r.hides;have hcf:=cV f;have h0:M1 (Mk r q.2 f k rate 0)=[]:=rfl;have hkl:=h.kl;repeat with_reducible first|refine nz aa ?_|apply ny;simp only[f104,hck,hch,hcf,go_sem];rfl
 refine am.keep [14,13,12,7,3,1,2] (by simp only[go_sem];rfl) ?_
 refine am.nilRow 7 3 1 (by simp only[go_sem]) (by simp only[go_sem];rfl) (by simp only[go_sem];rfl) ?_
 refine am.loop (fun i s'=>s'=⟨[(14,ii (i:Nat)),(13,ii (r.kinds.length:Nat)),(12,.sl r.zk (r.kinds.map ii)),(7,.ms 1 (M1 (Mk r q.2 f k rate i)).length),(3,.bp 0 0),(1,ii k),(2,ii rate)],35,[.var (fdC r (n:Nat) z f) false,.row (M1 (Mk r q.2 f k rate i)).isEmpty 3 1 ((M1 (Mk r q.2 f k rate i)).map ii) false]⟩) r.kinds.length (by first|(simp only[h0,go_sem];first|done|rfl)|rfl) ?_
 rintro i _ hi rfl;by_cases hlt:i<r.kinds.length
 ·obtain⟨x,hx⟩:=gex hlt
  obtain⟨y,hy⟩:∃y,f[i]?=some y:=⟨_,DT (by have:=h.hf;omega)⟩
  obtain⟨s,hs⟩:∃s,q.2[i]?=some s:=⟨_,DT (by have:=h.hl;omega)⟩
  have hx':(r.kinds.map ii)[i]?=some (ii x):=aw hx;have hlt':(i:Int)<r.kinds.length:=by omega
  have hzk:r.zk≠.n:=fun e=>by rw[bd (Rg.ok_k h.ok) e]at hlt;simp at hlt
  have e4:=wIs i (by omega)
  have hst:=Oa r q.2 f k rate i;have hA:=NE r q.2 f k rate i;have hg:chgN r q.2 f k rate i=(decide (x-1=k)&&chgB r y s rate):=by
   unfold chgN;rw[Ep,Ep,Ep,hx,hy,hs];rfl
  have h131:=kind_131 x (h.kb x (DU hx));have h132:=M9 h i y s rate hs hy hrb;have hbt:bD 0 [PV.agg (fdC r (n:Nat) z f),ii (i:Nat),ii rate]=true:=ae 0 _ (by simp[ad,PV.closed,nB,cV])
  have hbt1:bD 0 [ii x]=true:=rfl;rw[hg]at hst;have hN:M1 (Mk r q.2 f k rate (i+1))=M1 (Mk r q.2 f k rate i)++(if(decide (x-1=k)&&chgB r y s rate)=true then[(i:Int)]else[]):=by
   rw[hst];unfold M1;rw[Ec];split <;> rfl
  have hAl:(M1 (Mk r q.2 f k rate i)).length<=i:=by unfold M1;rw[DX];exact hA
  generalize M1 (Mk r q.2 f k rate i)=A at hN hAl ⊢;clear hst hA hg;generalize chgB r y s rate=d at hN h132;by_cases hk:x-1=k
  ·have hk1:(x-1==k)=true:=by simp[hk]
   rw[Ej hk,EJ]at hN;cases d
   ·rw[D5 Bool.false_ne_true,Er]at hN
    repeat with_reducible first|refine nz (aj (aj aa (ent func131 rfl) h131 hbt1) (ent func132 rfl) h132 hbt) ?_|apply ny;simp only[f104,eA,hx',hlt',hzk,hk1,e4,hck,hch,hcf,go_sem];rfl
    refine ak.t 2 [14,13,12,7,3,1,2] hlt (by simp only[aF,vh,bJ,go_sem]) (by rw[hN];first|(simp only[go_sem];first|done|rfl)|rfl)
   ·rw[DZ rfl]at hN
    have hE:(A++[(i:Int)]).isEmpty=false:=by simp
    have hL:(A++[(i:Int)]).length=A.length+1:=by simp
    have q1:(A.length+1)*8<=140737488355328:=by omega
    have q2:A.length+1<=maxLen:=by unfold maxLen;omega
    repeat with_reducible first|refine nz (aj (aj aa (ent func131 rfl) h131 hbt1) (ent func132 rfl) h132 hbt) ?_|apply ny;simp only[f104,eA,hx',hlt',hzk,hk1,e4,q1,q2,hck,hch,hcf,go_sem];rfl
    refine ak.t 2 [14,13,12,7,3,1,2] hlt (by simp only[aF,vh,bJ,go_sem]) (by rw[hN,hE,hL];simp only[Ec,go_sem])
  ·have hk1:(x-1==k)=false:=by simp[hk]
   rw[Ei hk,Gj,D5 Bool.false_ne_true,Er]at hN;repeat with_reducible first|refine nz (aj (aj aa (ent func131 rfl) h131 hbt1) (ent func132 rfl) h132 hbt) ?_|apply ny;simp only[f104,eA,hx',hlt',hzk,hk1,e4,hck,hch,hcf,go_sem];rfl
   refine ak.t 2 [14,13,12,7,3,1,2] hlt (by simp only[aF,vh,bJ,go_sem]) (by rw[hN];first|(simp only[go_sem];first|done|rfl)|rfl)
 ·have hlt':¬(i:Int)<r.kinds.length:=by omega
  have e:i=r.kinds.length:=by omega
  rw[e];have hlt':¬(r.kinds.length:Int)<r.kinds.length:=by omega
  repeat with_reducible first|refine nz aa ?_|apply ny;simp only[f104,hlt',go_sem];rfl
  exact⟨rfl,rfl,_,rfl,leave_row (id:=1) rfl (cV _) (by rw[DX])⟩
theorem OE{s:Int×Int}{i:Nat}(h:i<(s.2+1-s.1).toNat):(LB s).drop i=(s.1+(i:Int))::(LB s).drop (i+1):=by
 have hlen:i<(LB s).length:=by simp[LB];omega
 rw[Gl hlen];simp[LB]
theorem rngI_end{s:Int×Int}{i:Nat}(h:(s.2+1-s.1).toNat<=i):(LB s).drop i=[]:=Ef (by simp[LB];omega)
theorem Oc{s:Int×Int}{x:Int}(h:x∈LB s):s.1<=x∧x<=s.2:=by
 unfold LB at h;obtain⟨k,hk,rfl⟩:=Ex.1 h;have:=FJ.1 hk
 omega
theorem Nc(s:Int×Int)(hs:-1000000<=s.1∧s.1<=1000000∧-1000000<=s.2∧s.2<=1000000):uN prog 130 (fun id=>[.yl id,.ip [ii s.1,ii s.2]]) ((LB s).map fun x=>[ii x]):=by
 intro id low b low' h0 hid h;obtain⟨hl',h0'⟩:=LC h h0;have hsl2:SameLoops low low':=by
  have:=iB (own:=[]) h (fun x hx=>by cases hx)
  simpa using this
 refine⟨.tuple [],?_,hsl2⟩;refine ab.ofB hTT func130 rfl rfl ?_ hl' (fun x hx=>by have:=h0' x hx;rw[hl']at this;simpa using this) (.tuple (fun c hc=>by cases hc))
 have h:FoldR (YR prog id) (((LB s).drop 0).map fun x=>[ii x]) low b low':=h
 repeat with_reducible first|refine nz aa ?_|apply ny;simp only[f130,go_sem];rfl
 refine am.keep [3,0,1] (by simp only[go_sem];rfl) ?_
 refine am.loop (fun i s'=>∃lw:List Box,lw.length=low.length∧OwnOk 0 lw∧SameLoops low lw∧FoldR (YR prog id) (((LB s).drop i).map fun x=>[ii x]) lw b low' ∧
  s'=⟨[(3,ii (s.1+(i:Int))),(0,.yl id),(1,.ip [ii s.1,ii s.2])],16,lw⟩) (s.2+1-s.1).toNat ⟨low,rfl,h0,SameLoops.refl _,h,by first|(simp only[Int.natCast_zero,Int.add_zero,go_sem];first|done|rfl)|rfl⟩ ?_
 rintro i _ hi ⟨lw,hlw,hlw0,hsl,hf,rfl⟩;by_cases hlt:i<(s.2+1-s.1).toNat
 ·have hle:s.1+(i:Int)<=s.2:=by omega
  have e4:IntKind.i64.wrap (s.1+(i:Int)+1)=s.1+((i+1:Nat):Int):=by rw[ai (by omega) (by omega)];omega
  rw[OE hlt,EE]at hf;have hw0:OwnOk lw.length []:=fun x hx=>by cases hx
  cases hf with
  |stop hy =>
   obtain⟨hy1,hy2⟩:=hy.2.2 [] hw0;rw[Er,Er]at hy1 hy2;repeat with_reducible first|apply zd.nil|apply nx|apply wQ rfl|(first|apply zd.step|apply wW|apply wX|apply am.drawn [] hTT aa cP mixed;kernel_rfl);simp only[f130,hle,xM,go_sem];rfl|refine am.regY hTT aa (p8 hy1 hy2) cP ?_|refine wa ⟨by kernel_rfl,?_⟩
   exact⟨rfl,hsl.trans hy2,rfl,[],by simp⟩
  |next hy k =>
   obtain⟨hy1,hy2⟩:=hy.2.2 [] hw0;rw[Er,Er]at hy1 hy2;repeat with_reducible first|apply zd.nil|apply nx|apply wQ rfl|(first|apply zd.step|apply wW|apply wX|apply am.drawn [] hTT aa cP mixed;kernel_rfl);simp only[f130,hle,e4,xM,go_sem];rfl|refine am.regY hTT aa (p8 hy1 hy2) cP ?_|refine wa ⟨by kernel_rfl,?_⟩
   exact ak.b hlt (kL.keep [3,0,1] (by first|(simp only[go_sem];first|done|rfl)|rfl)) ⟨_,by rw[hy.1,hlw],hy.2.1,hsl.trans hy2,k,rfl⟩
 ·have hle:¬s.1+(i:Int)<=s.2:=by omega
  rw[rngI_end (by omega)]at hf
  have hbl:low'=lw:=by cases hf;rfl
  subst hbl;repeat with_reducible first|refine nz aa ?_|apply ny;simp only[f130,hle,go_sem];rfl
  exact⟨rfl,hsl,rfl,[],by simp⟩
theorem M5(s:Int×Int):ab prog 102 [.agg [ii s.1,ii s.2]] [] (.ret (.fn (.func 130) [] [.ip [ii s.1,ii s.2]])) []:=by
 refine ab.ofF hTT func102 rfl rfl ?_;repeat with_reducible first|refine nz aa ?_|apply ny;simp only[f102,bl,go_sem];rfl
 exact⟨rfl,rfl,_,rfl,xZ _ _ rfl⟩
def c102L:Tb_
 |[.agg [.int .i64 a,.int .i64 b]],sg=>some (.ret (.fn (.func 130) [] [.ip [ii a,ii b]]),sg)
 |_,_=>none
theorem Nq:dU prog 102 c102L:=dU.of0 (ent func102 rfl) fun args sg r sg' h=>by
 unfold c102L at h;split at h <;> cases h
 exact⟨_,rfl,rfl,rfl,M5 (_,_)⟩
theorem Oo(r:Rg):ab prog 103 [.agg r.cells] [] (.ret (.agg [ii r.al.1,ii r.al.2,ii r.ac.1,ii r.ac.2])) []:=by
 refine ab.of0 hTT func103 rfl rfl ?_;have hck:=cV r.kinds;have hch:=nB r.hides;repeat with_reducible first|refine nz aa ?_|apply ny;simp only[f103,hck,hch,go_sem];rfl
 exact⟨rfl,rfl,_,rfl,rfl⟩
theorem sum_77(z:Z)(l:List Int)(hz:zOk z (l.map ii)=true)(hn:l.length<=1000)(hl:∀x∈l,0<=x∧x<=1000):ab prog 77 [.sl z (l.map ii)] [] (.ret (ii (zF l))) []:=by
 refine ab.of0 hTT func77 rfl rfl ?_;have h0:zF (l.take 0)=0:=rfl;repeat with_reducible first|refine nz aa ?_|apply ny;simp only[f77,go_sem];rfl
 refine am.keep [8,7,6,3] (by simp only[go_sem];rfl) ?_
 refine am.loop (fun i s'=>s'=⟨[(8,ii (i:Nat)),(7,ii (l.length:Nat)),(6,.sl z (l.map ii)),(3,ii (zF (l.take i)))],17,[]⟩) l.length (by first|(simp only[h0,go_sem];first|done|rfl)|rfl) ?_
 rintro i _ hi rfl;by_cases hlt:i<l.length
 ·obtain⟨x,hx⟩:=gex hlt
  have hx':(l.map ii)[i]?=some (ii x):=aw hx;have hlt':(i:Int)<l.length:=by omega
  have hz':z≠.n:=fun e=>by rw[bd hz e]at hlt;simp at hlt
  have e4:=wIs i (by omega)
  have hs:=Mq hx;have hb:=L0 (l:=l.take i) fun y hy=>hl y (Ey hy)
  have hxb:=hl x (DU hx);rw[En]at hb;generalize zF (l.take i)=m at hs hb ⊢;have e5:IntKind.i64.wrap (m+x)=m+x:=ai (by omega) (by omega)
  repeat with_reducible first|refine nz aa ?_|apply ny;simp only[f77,hx',hlt',hz',e4,e5,go_sem];rfl
  refine ak.t 0 [8,7,6,3] hlt (by simp only[aF,go_sem]) (by first|(simp only[hs,go_sem];first|done|rfl)|rfl)
 ·have hlt':¬(i:Int)<l.length:=by omega
  have e:l.take i=l:=EQ (by omega)
  rw[e];repeat with_reducible first|refine nz aa ?_|apply ny;simp only[f77,hlt',go_sem];rfl
  exact⟨rfl,rfl,_,rfl,rfl⟩
theorem NT(r:Rg)(q f:List Int)(k o:Int){l:List Int}{i:Nat}{x:Int}(h:l[i]?=some x):OF r q f k o (l.take (i+1))=min (OF r q f k o (l.take i)) ((Mk r q f k x r.kinds.length).length:Int):=by
 unfold OF;rw[lX _ _ h]
theorem My(r:Rg)(q f:List Int)(k:Int):∀{l:List Int} {o:Int},0<=o->o<=6->0<=OF r q f k o l∧OF r q f k o l<=6
 |[],o,h0,h1=>⟨h0,h1⟩
 |x::l,o,h0,h1=>by
  have:OF r q f k o (x::l)=OF r q f k (min o ((Mk r q f k x r.kinds.length).length:Int)) l:=rfl
  rw[this];exact My r q f k (by omega) (by omega)
theorem natI_len(l:List Nat):(M1 l).length=l.length:=DX ..
structure RtOk(r:Rg):Prop where
 al:0<=r.al.1∧r.al.1<=1300∧0<=r.al.2∧r.al.2<=1300
 ac:0<=r.ac.1∧r.ac.1<=1300∧0<=r.ac.2∧r.ac.2<=1300
theorem MW{r:Rg}{n:Nat}{q:Qi}{z:Z}{f:List Int}(h:FdOk r n q z f)(hr:RtOk r)(k:Nat)(hk:k<2):
 ab prog 78 [.agg (fdC r (n:Nat) z f),ii (k:Nat)] [] (.ret (ii (NQ r q.2 f (k:Nat)))) []:=by
 refine ab.of0 hTT func78 rfl rfl ?_;have hck:=cV r.kinds;have hch:=nB r.hides;have hcf:=cV f;unfold NQ;have h103:=Oo r;have hbt:bD 0 [PV.agg r.cells]=true:=ae 0 _ (by simp[ad,PV.closed,nB,cV])
 obtain⟨s,hs,hsi⟩:∃s:Int×Int,Ol r (k:Nat)=s∧0<=s.1∧s.1<=1300∧0<=s.2∧s.2<=1300:=by
  refine⟨_,rfl,?_⟩;unfold Ol;split
  ·exact hr.al
  ·exact hr.ac
 have hit:=Nc s (by omega)
 have hmem:∀x∈LB s,0<=x∧x<=1300:=fun x hx=>by have:=Oc hx;omega
 have hk01:k=0∨k=1:=by omega
 rw[hs];generalize LB s=T at hit hmem ⊢;have hbd:=fun i=>My r q.2 f (k:Nat) (l:=T.take i) (o:=6) (by omega) (by omega)
 have h0:OF r q.2 f (k:Nat) 6 (T.take 0)=6:=rfl;have hcn:∀x,ad ((M1 (Mk r q.2 f (k:Nat) x r.kinds.length)).map ii)=true:=fun x=>cV _
 repeat with_reducible first|(fail_if_success refine am.seq (x:=.region 2 _ _) ?_);(fail_if_success show am _ (.region 2 _ _) _ _);refine nz aa ?_|apply ny;simp only[f78,hck,hch,hcf,go_sem];rfl
 refine am.cutK [12,5,3,2] (tm':=[(12,.fn (.func 130) [] [.ip [ii s.1,ii s.2]]),(5,.bp 2 0),(3,.bp 1 0),(2,.bp 0 0)]) (n':=22) (sg':=[.var (fdC r (n:Nat) z f) false,.var [ii (k:Nat)] false,.var [ii 6] false,.dead,.dead]) ?_ ?_
 ·rcases hk01 with rfl|rfl
  ·obtain rfl:r.al=s:=hs
   repeat with_reducible first|refine nz (ah (aj aa (ent func103 rfl) h103 hbt) Nq) ?_|apply ny;simp only[f78,aE,eA,c102L,hck,hch,hcf,bl,go_sem];rfl
   exact⟨rfl,rfl,rfl,rfl⟩
  ·obtain rfl:r.ac=s:=hs
   repeat with_reducible first|refine nz (ah (aj aa (ent func103 rfl) h103 hbt) Nq) ?_|apply ny;simp only[f78,aE,eA,c102L,hck,hch,hcf,bl,go_sem];rfl
   exact⟨rfl,rfl,rfl,rfl⟩
 have hfd:=MI r (n:Nat) z f;repeat with_reducible first|refine nz aa ?_|apply ny;simp only[f78,go_sem];rfl
 refine am.range (L:=T.map fun x=>[ii x]) (first:=[]) (cap:=[.ip [ii s.1,ii s.2]]) rfl (ent func130 rfl) hit ?_ ?_ ?_
  (fun i st=>st=[.var (fdC r (n:Nat) z f) false,.var [ii (k:Nat)] false,.var [ii (OF r q.2 f (k:Nat) 6 (T.take i))] false,.dead,.dead])
  rfl ?_ ?_ ?_
 ·intro e he
  obtain⟨l,_,rfl⟩:=Ex.1 he;rfl
 ·intro t ht
  have h10:t=13:=by simpa using ht
  subst h10
  show(13:Nat)<22
  decide
 ·intro t v hv
  obtain⟨w,hw,rfl⟩:=jk hv;simp only[D6,Eb,EM]at hw;rcases hw with rfl|rfl|rfl|rfl
  ·exact fnLt rfl
  ·exact .bp (show(2:Nat)<6 by decide)
  ·exact .bp (show(1:Nat)<6 by decide)
  ·exact .bp (show(0:Nat)<6 by decide)
 ·rintro i st rfl
  refine⟨rfl,fun x hx=>?_,aD _ _ rfl⟩
  simp only[D6,Eb,EM]at hx;rcases hx with rfl|rfl|rfl|rfl|rfl
  ·exact vLt hfd
  ·exact vLt rfl
  ·exact vLt rfl
  ·trivial
  ·trivial
 ·rintro i e st he1 rfl
  obtain⟨x,hx,rfl⟩:∃x,T[i]?=some x∧e=[ii x]:=by
   rw[Eh,EC]at he1;obtain⟨d,a,rfl⟩:=he1;exact⟨d,a,rfl⟩
  have htk:=NT r q.2 f (k:Nat) 6 hx;have hbdi:=hbd i;have h104:=Nl h (k:Nat) x (hmem x (DU hx));have hbt4:bD 0 [PV.agg (fdC r (n:Nat) z f),ii (k:Nat),ii x]=true:=ae 0 _ (by simp[ad,PV.closed,nB,cV])
  have hll:=NE r q.2 f (k:Nat) x r.kinds.length;have hkl:=h.kl;obtain⟨zl,ez,hzl⟩:=LJ (M1 (Mk r q.2 f (k:Nat) x r.kinds.length));rw[ez]at h104;have hNl:((M1 (Mk r q.2 f (k:Nat) x r.kinds.length)).map ii).length=(Mk r q.2 f (k:Nat) x r.kinds.length).length:=by rw[DX,natI_len]
  have hcN:=hcn x;refine .next _ rfl fun own ho=>?_
  rw[htk];generalize OF r q.2 f (k:Nat) 6 (T.take i)=m at hbdi ⊢;generalize (M1 (Mk r q.2 f (k:Nat) x r.kinds.length)).map ii=N at h104 hNl hcN;generalize (Mk r q.2 f (k:Nat) x r.kinds.length).length=c at hll hNl ⊢;subst hNl;have ga0:=dS own;have ga:=dO own;have gs0:=gq own;have gs:=d8 own;unfold YRun;generalize hX:Box.loop _=X1;repeat with_reducible first|refine nz aa ?_|apply ny;simp only[f78,oS,FX,hck,hch,hcf,ga0,ga,gs0,gs,go_sem];rfl
  refine⟨rfl,own,by rw[←hX];rfl,?_⟩
  dsimp only;generalize hX2:Box.loop _=X2;have hNm:N.length<=maxLen:=by unfold maxLen;omega
  by_cases hlm:(N.length:Int)<m
  ·have hmin:min m (N.length:Int)=N.length:=by omega
   rw[hmin];cases N with
   |nil =>
    have hlm0:(0:Int)<m:=hlm;repeat with_reducible first|refine nz (aj aa (ent func104 rfl) h104 hbt4) ?_|apply ny;simp only[f78,eA,hlm0,hck,hch,hcf,ga0,ga,gs0,gs,go_sem];rfl
    exact⟨rfl,[.dead],by rw[←hX2];simp⟩
   |cons a N =>
    obtain⟨hc0,hcr⟩:a.closed=true∧ad N=true:=by
     have:(a.closed&&ad N)=true:=hcN
     rwa [D3]at this
    rw[Ek]at hlm hNm ⊢;repeat with_reducible first|refine nz (aj aa (ent func104 rfl) h104 hbt4) ?_|apply ny;simp only[f78,eA,hlm,hNm,hc0,hcr,hck,hch,hcf,ga0,ga,gs0,gs,go_sem];rfl
    exact⟨rfl,[.dead],by rw[←hX2];simp⟩
  ·have hmin:min m (N.length:Int)=m:=by omega
   rw[hmin];cases N with
   |nil =>
    have hlm0:¬(0:Int)<m:=hlm;repeat with_reducible first|refine nz (aj aa (ent func104 rfl) h104 hbt4) ?_|apply ny;simp only[f78,eA,hlm0,hck,hch,hcf,ga0,ga,gs0,gs,go_sem];rfl
    exact⟨rfl,[.dead],by rw[←hX2];simp⟩
   |cons a N =>
    obtain⟨hc0,hcr⟩:a.closed=true∧ad N=true:=by
     have:(a.closed&&ad N)=true:=hcN
     rwa [D3]at this
    rw[Ek]at hlm hNm;repeat with_reducible first|refine nz (aj aa (ent func104 rfl) h104 hbt4) ?_|apply ny;simp only[f78,eA,hlm,hNm,hc0,hcr,hck,hch,hcf,ga0,ga,gs0,gs,go_sem];rfl
    exact⟨rfl,[.dead],by rw[←hX2];simp⟩
 ·rintro st rfl
  rw[show(T.map fun x=>[ii x]).length=T.length from DX ..,Eg]
  repeat with_reducible first|refine nz aa ?_|apply ny;simp only[f78,go_sem];rfl
  exact⟨rfl,rfl,_,rfl,rfl⟩
end Go.Pv
