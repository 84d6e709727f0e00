import Derived.Test.YtkjalecddameoaaGreatDoorQhPr
set_option linter.all false
open Go.Proofs.Tryz
namespace Go.Pv
open Go Go.RowKit Go.Proofs
set_option maxRecDepth 200000
set_option maxHeartbeats 8000000
def cH(x:Sn):PV:=.agg [ii x.part,ii x.least,ii x.most,.bool x.loose,ii (-1)]
def l7:PV->Option Sn
 |.agg [.int .i64 a,.int .i64 b,.int .i64 c,.bool d,.int .i64 w]=>if w = -1 then some ⟨a,b,c,d,false⟩else none
 |_=>none
theorem qN(x:PV)(a:Sn)(h:l7 x=some a):x=cH a:=by
 unfold l7 at h;split at h <;> try (cases h;done)
 split at h <;> cases h
 rename_i hw;subst hw;rfl
def nof(x:Sn):Sn:={ x with formula:=false }
theorem zY(x:Sn):l7 (cH x)=some (nof x):=rfl
theorem decNss(l:List Sn):dM l7 (l.map cH)=some (l.map nof):=by
 induction l with
 |nil=>rfl
 |cons a l ih=>simp[dM,zY,ih]
theorem ay(l:List Sn):ad (l.map cH)=true:=aY (fun _=>rfl) l
theorem aK(m:Nat)(l:List Sn):bD m (l.map cH)=true:=fg (fun _=>rfl) l
abbrev Nt.cells(n:Nt):List PV:=[ii n.b,ii n.w0.1,ii n.w0.2,ii n.w1.1,ii n.w1.2,ii n.w2.1,ii n.w2.2]
abbrev plC(n:Nt)(z:Z)(l:List Sn):List PV:=[ii n.b,ii n.w0.1,ii n.w0.2,ii n.w1.1,ii n.w1.2,ii n.w2.1,ii n.w2.2,.sl z (l.map cH)]
theorem dY(n:Nt)(z:Z)(l:List Sn):ad (plC n z l)=true:=by simp[ad,PV.closed,ay]
theorem fi(m:Nat)(n:Nt)(z:Z)(l:List Sn):(PV.agg (plC n z l)).ltB m=true:=bq m _ (dY n z l)
def gJ:PV->Option Nt
 |.agg [.int .i64 b,.int .i64 a0,.int .i64 b0,.int .i64 a1,.int .i64 b1,.int .i64 a2,.int .i64 b2]=>some ⟨b,(a0,b0),(a1,b1),(a2,b2)⟩
 |_=>none
theorem fF(n:Nt):gJ (.agg n.cells)=some n:=rfl
theorem dz{v:PV}{n:Nt}(h:gJ v=some n):v=.agg n.cells:=by
 unfold gJ at h;split at h <;> cases h
 rfl
def eS:PV->Option (Nt×Z×List Sn)
 |.agg [.int .i64 b,.int .i64 a0,.int .i64 b0,.int .i64 a1,.int .i64 b1,.int .i64 a2,.int .i64 b2,.sl z es]=>match dM l7 es with
  |some l=>if zOk z es=true then some (⟨b,(a0,b0),(a1,b1),(a2,b2)⟩,z,l)else none
  |none=>none
 |_=>none
theorem b8{v:PV}{n:Nt}{z:Z}{l:List Sn}(h:eS v=some (n,z,l)):v=.agg (plC n z l)∧(z=.n->l=[]):=by
 unfold eS at h;split at h <;> try (cases h;done)
 split at h <;> try (cases h;done)
 rename_i h1;split at h <;> cases h
 rename_i hz;obtain rfl:=bv qN h1;exact⟨rfl,bd hz⟩
theorem lY(n:Nt)(z:Z)(l:List Sn)(hz:z=.n->l=[]):eS (.agg (plC n z l))=some (n,z,l.map nof):=by
 have h:zOk z (l.map cH)=true:=by
  cases z with
  |n=>rw[hz rfl];rfl
  |a=>rfl
  |f=>rfl
 show(match dM l7 (l.map cH)with|some l'=>if zOk z (l.map cH)=true then some ((⟨n.b,(n.w0.1,n.w0.2),(n.w1.1,n.w1.2),(n.w2.1,n.w2.2)⟩:Nt),z,l')else none|none=>none)=some (n,z,l.map nof)
 rw[decNss];exact DZ h
def cfV:CallF:=aE cf0 132 cin
theorem ck:CallFOk prog cfV:=ah aa rG
theorem rq(w:Int×Int):ab prog 190 [.agg [ii w.1,ii w.2]] [] (.ret (.bool (fD w))) []:=by
 refine ab.of0 hTT func190 rfl rfl ?_;unfold fD;cases a1:inB w.1 0 900
 ·repeat with_reducible first|refine nz ck ?_|apply ny;simp only[f190,cfV,cin,a1,go_sem];rfl
  exact⟨rfl,rfl,_,rfl,rfl⟩
 cases a2:inB w.2 w.1 900
 ·repeat with_reducible first|refine nz ck ?_|apply ny;simp only[f190,cfV,cin,a1,a2,go_sem];rfl
  exact⟨rfl,rfl,_,rfl,rfl⟩
 have b1:=bm.1 a1;have b2:=bm.1 a2;have e1:IntKind.i64.wrap (w.2-w.1)=w.2-w.1:=ai (by omega) (by omega)
 repeat with_reducible first|refine nz ck ?_|apply ny;simp only[f190,cfV,cin,a1,a2,e1,go_sem];rfl
 exact⟨rfl,rfl,_,rfl,rfl⟩
def decW:PV->Option (Int×Int)
 |.agg [.int .i64 a,.int .i64 b]=>some (a,b)
 |_=>none
theorem uM{v:PV}{w:Int×Int}(h:decW v=some w):v=.agg [ii w.1,ii w.2]:=by
 unfold decW at h;split at h <;> cases h
 rfl
def c190:Tb_
 |[v],sg=>match decW v with
  |some w=>some (.ret (.bool (fD w)),sg)
  |none=>none
 |_,_=>none
theorem c190_ok:al prog 190 c190:=al.of0 (ent func190 rfl) fun args sg r sg' h=>by
 unfold c190 at h;split at h <;> try (cases h;done)
 split at h <;> cases h
 rename_i w h1;obtain rfl:=uM h1;exact⟨_,rfl,rfl,rfl,rq w⟩
def nu(n:Nt)(k:Int):Int×Int:=if k=0 then n.w0 else if k=1 then n.w1 else n.w2
theorem vF(n:Nt)(z:Z)(l:List Sn)(k:Int)(hk:0<=k∧k<=2):ab prog 191 [.agg (plC n z l),ii k] [] (.ret (.agg [ii (nu n k).1,ii (nu n k).2])) []:=by
 rcases(by omega:k=0∨k=1∨k=2)with rfl|rfl|rfl
 all_goals
  refine ab.ofF hTT func191 rfl rfl ?_;repeat with_reducible first|refine nz aa ?_|apply ny;simp only[f191,go_sem];rfl
  exact⟨rfl,rfl,_,rfl,aq rfl⟩
def tH:Tb_
 |[v,.int .i64 k],sg=>match eS v with
  |some (n,_,_)=>if 0<=k∧k<=2 then some (.ret (.agg [ii (nu n k).1,ii (nu n k).2]),sg)else none
  |none=>none
 |_,_=>none
theorem zX:al prog 191 tH:=al.of0 (ent func191 rfl) fun args sg r sg' h=>by
 unfold tH at h;split at h <;> try (cases h;done)
 split at h <;> try (cases h;done)
 rename_i n z l h1;split at h <;> cases h
 rename_i hk;obtain⟨rfl,_⟩:=b8 h1;exact⟨_,rfl,rfl,by rw[af,fi];rfl,vF n z l _ hk⟩
def cfV2:CallF:=aE (aE cfV 190 c190) 191 tH
theorem oV:CallFOk prog cfV2:=ah (ah ck c190_ok) zX
def gT(l:List Sn)(i:Nat):Int:=match i with
 |0=>0
 |i+1=>match l[i]? with
  |some x=>x.part
  |none=>0
theorem kj{l:List Sn}{i:Nat}{x:Sn}(h:l[i]?=some x):bI (l.take (i+1))=bI (l.take i)+if x.loose=true then 1 else 0:=by
 unfold bI;rw[Ev,h,Ft,Ea]
 congr 1
 cases hx:x.loose <;> simp[EZ,hx]
theorem pF(l:List Sn):bI l<=l.length:=Fh ..
theorem mP{l:List Sn}{i:Nat}{x:Sn}(h:l[i]?=some x):gT l (i+1)=x.part:=by
 show(match l[i]? with|some x=>x.part|none=>0)=x.part
 rw[h]
theorem G5(n:Nt)(z:Z)(l:List Sn)(hz:z=.n->l=[]):ab prog 143 [.agg (plC n z l)] [] (.ret (.bool (du n l))) []:=by
 refine ab.of0 hTT func143 rfl rfl ?_;have hcl:=ay l;have hdn:=lY n z l hz;have hpb:du n l=(inB n.b 0 900&&inB l.length 1 10&&((fD n.w0&&fD n.w1&&fD n.w2)&&(kK 0 l&&decide (bI l<=6)))):=by
  unfold du evB;generalize inB n.b 0 900=b1;generalize inB l.length 1 10=b2;generalize fD n.w0=b3;generalize fD n.w1=b4;generalize fD n.w2=b5;generalize kK 0 l=b6;generalize decide (bI l<=6)=b7
  revert b1 b2 b3 b4 b5 b6 b7
  decide
 rw[hpb];cases a1:inB n.b 0 900
 ·repeat with_reducible first|refine nz ck ?_|apply ny;simp only[f143,cfV,cin,a1,go_sem];rfl
  exact⟨rfl,rfl,_,rfl,rfl⟩
 cases a2:inB l.length 1 10
 ·repeat with_reducible first|refine nz ck ?_|apply ny;simp only[f143,cfV,cin,a1,a2,go_sem];rfl
  exact⟨rfl,rfl,_,rfl,rfl⟩
 have b2:=bm.1 a2;simp only[EJ];repeat with_reducible first|refine nz ck ?_|apply ny;simp only[f143,cfV,cin,a1,a2,go_sem];rfl
 refine am.keep [19,2,1] (by simp only[go_sem];rfl) ?_
 refine am.loop (fun i s'=>(∀j:Nat,j<i->fD (nu n j)=true)∧s'=⟨[(19,ii (i:Nat)),(2,.bool false),(1,.bp 0 0)],80,[.var (plC n z l) false]⟩) 3 ⟨fun j hj=>by omega,by first|(simp only[go_sem];first|done|rfl)|rfl⟩ ?_
 rintro i _ hi ⟨hw,rfl⟩;have hww:(fD n.w0&&fD n.w1&&fD n.w2)=((fD (nu n 0))&&fD (nu n 1)&&fD (nu n 2)):=rfl;rw[hww];by_cases hlt:i<3
 ·have hlt':(i:Int)<3:=by omega
  have k1:(0:Int)<=i:=by omega
  have k2:(i:Int)<=2:=by omega
  have e4:=wIs i (by omega)
  obtain⟨w,hwk⟩:∃w,w=nu n (i:Int):=⟨_,rfl⟩;have hdw:decW (.agg [ii w.1,ii w.2])=some w:=rfl;cases hb:fD w
  ·repeat with_reducible first|refine nz oV ?_|apply ny;simp only[f143,cfV2,c190,tH,hdn,←hwk,hdw,hb,hlt',k1,k2,hcl,go_sem];rfl
   refine⟨rfl,rfl,_,rfl,?_⟩;have:(fD (nu n 0)&&fD (nu n 1)&&fD (nu n 2))=false:=by
    rw[hwk]at hb
    rcases(by omega:i=0∨i=1∨i=2)with rfl|rfl|rfl
    ·have hb:fD (nu n 0)=false:=hb
     rw[hb];rfl
    ·have hb:fD (nu n 1)=false:=hb
     rw[hb];simp
    ·have hb:fD (nu n 2)=false:=hb
     rw[hb];simp
   rw[this];rfl
  ·repeat with_reducible first|refine nz oV ?_|apply ny;simp only[f143,cfV2,c190,tH,hdn,←hwk,hdw,hb,hlt',k1,k2,hcl,e4,go_sem];rfl
   refine ak.t 1 [19,2,1] hlt (by simp only[aK,an,go_sem]) ⟨fun j hj=>by
    by_cases e:j=i
    ·subst e;rw[←hwk];exact hb
    ·exact hw j (by omega),by first|(simp only[go_sem];first|done|rfl)|rfl⟩
 have hlt':¬(i:Int)<3:=by omega
 obtain rfl:i=3:=by omega
 have hw0:fD (nu n 0)=true:=hw 0 (by omega)
 have hw1:fD (nu n 1)=true:=hw 1 (by omega)
 have hw2:fD (nu n 2)=true:=hw 2 (by omega)
 rw[hw0,hw1,hw2];simp only[EJ];clear hww hw0 hw1 hw2 hw;repeat with_reducible first|refine nz ck ?_|apply ny;simp only[f143,hlt',go_sem];rfl
 refine am.keep [31,30,29,5,4,2,1] (by simp only[go_sem];rfl) ?_
 refine am.loop (fun i s'=>kK 0 l=kK (gT l i) (l.drop i)∧s'=⟨[(31,ii (i:Nat)),(30,ii l.length),(29,.sl z (l.map cH)),(5,ii (bI (l.take i):Nat)),(4,ii (gT l i)),(2,.bool false),(1,.bp 0 0)],80,[.var (plC n z l) false]⟩) l.length ⟨rfl,by first|(simp only[go_sem];first|done|rfl)|rfl⟩ ?_
 rintro i _ hi ⟨hm,rfl⟩;by_cases hlt:i<l.length
 ·obtain⟨x,hx⟩:=gex hlt
  have hx':(l.map cH)[i]?=some (.agg [ii x.part,ii x.least,ii x.most,.bool x.loose,ii (-1)]):=aw hx;have hlt':(i:Int)<l.length:=by omega
  have hz':z≠.n:=fun e=>by rw[hz e]at hlt;simp at hlt
  have e4:=wIs i (by omega)
  have e5:IntKind.i64.wrap ((l.length:Int)-1)=(l.length:Int)-1:=ai (by omega) (by omega)
  have hpn:=mP hx;have hlo:=kj hx;have hll:=pF (l.take i);rw[En]at hll;rw[aP hx,kK]at hm;generalize gT l i=p0 at hm ⊢;have q4:inB (-1) (-1) ((l.length:Int)-1)=true:=bm.2 (by omega)
  have q5:((-1:Int)==(i:Int))=false:=by rw[EF];omega
  have e6:IntKind.i64.wrap ((bI (l.take i):Int)+1)=((bI (l.take i)+1:Nat):Int):=ai (by omega) (by omega)
  cases c1:inB x.part p0 2
  ·repeat with_reducible first|refine nz ck ?_|apply ny;simp only[f143,cfV,cin,hx',hlt',hz',c1,go_sem];rfl
   refine⟨rfl,rfl,_,rfl,?_⟩;rw[hm,c1];rfl
  cases c2:inB x.least 1 240
  ·repeat with_reducible first|refine nz ck ?_|apply ny;simp only[f143,cfV,cin,hx',hlt',hz',c1,c2,go_sem];rfl
   refine⟨rfl,rfl,_,rfl,?_⟩;rw[hm,c1,c2];rfl
  cases c3:inB x.most x.least 240
  ·repeat with_reducible first|refine nz ck ?_|apply ny;simp only[f143,cfV,cin,hx',hlt',hz',c1,c2,c3,go_sem];rfl
   refine⟨rfl,rfl,_,rfl,?_⟩;rw[hm,c1,c2,c3];rfl
  rw[c1,c2,c3]at hm;simp only[EJ]at hm;cases hxl:x.loose
  ·rw[hxl]at hlo hx'
   repeat with_reducible first|refine nz ck ?_|apply ny;simp only[f143,cfV,cin,hx',hlt',hz',c1,c2,c3,q4,q5,e4,e5,go_sem];rfl
   refine ak.t 1 [31,30,29,5,4,2,1] hlt (by simp only[aK,an,go_sem]) ⟨by rw[hm,hpn],by rw[hlo,hpn];first|(simp only[go_sem];first|done|rfl)|rfl⟩
  ·rw[hxl]at hlo hx'
   repeat with_reducible first|refine nz ck ?_|apply ny;simp only[f143,cfV,cin,hx',hlt',hz',c1,c2,c3,q4,q5,e4,e5,e6,go_sem];rfl
   refine ak.t 1 [31,30,29,5,4,2,1] hlt (by simp only[aK,an,go_sem]) ⟨by rw[hm,hpn],by rw[hlo,hpn];first|(simp only[go_sem];first|done|rfl)|rfl⟩
 ·have hlt':¬(i:Int)<l.length:=by omega
  obtain rfl:i=l.length:=by omega
  rw[EL]at hm;rw[Eg];have hd:decide ((bI l:Int)<=6)=decide (bI l<=6):=by rw[Fa];omega
  repeat with_reducible first|refine nz ck ?_|apply ny;simp only[f143,hlt',hd,go_sem];rfl
  refine⟨rfl,rfl,_,rfl,?_⟩;rw[hm];rfl
def nn(c:List Nat):List PV:=c.map fun n:Nat=>ii (n:Int)
theorem pG(c:List Nat):nn c=(bH c).map ii:=by unfold nn bH;rw[Fb];rfl
theorem cz(c:List Nat):(nn c).length=c.length:=DX ..
theorem aO(c:List Nat):ad (nn c)=true:=aY (fun _=>rfl) c
theorem cb(m:Nat)(c:List Nat):bD m (nn c)=true:=fg (fun _=>rfl) c
theorem mz{c:List Nat}{i x:Nat}(h:c[i]?=some x):(nn c)[i]?=some (ii (x:Int)):=aw h
theorem oK(a b:List Nat):nn (a++b)=nn a++nn b:=Ec ..
theorem rQ(x:Nat):nn [x]=[ii (x:Int)]:=rfl
def decN:PV->Option Nat
 |.int .i64 n=>if 0<=n then some n.toNat else none
 |_=>none
theorem Bi(n:Nat):decN (ii (n:Int))=some n:=by
 show(if(0:Int)<=(n:Int)then some ((n:Int)).toNat else none)=_
 rw[DZ (by omega)];simp
theorem pJ(x:PV)(n:Nat)(h:decN x=some n):x=ii (n:Int):=by
 unfold decN at h;split at h <;> try (cases h;done)
 split at h <;> cases h
 rename_i k hk;have e:((k.toNat:Nat):Int)=k:=by omega
 rw[e]
def gN:PV->Option (List Nat)
 |.sl z es=>if zOk z es=true then dM decN es else none
 |_=>none
theorem decNN(c:List Nat):dM decN (nn c)=some c:=fc (g:=fun n:Nat=>ii (n:Int)) Bi c
theorem zOkV{z:Z}{α:Type}{f:α->PV}{l:List α}(hz:z=.n->l=[]):zOk z (l.map f)=true:=by
 cases z with
 |n=>rw[hz rfl];rfl
 |a=>rfl
 |f=>rfl
theorem dm{z:Z}{c:List Nat}(hz:z=.n->c=[]):gN (.sl z (nn c))=some c:=by
 have h:zOk z (nn c)=true:=zOkV hz
 show(if zOk z (nn c)=true then dM decN (nn c)else none)=some c
 rw[DZ h,decNN]
theorem cW{v:PV}{c:List Nat}(h:gN v=some c):∃z,v=.sl z (nn c)∧(z=.n->c=[]):=by
 unfold gN at h;split at h <;> try (cases h;done)
 split at h <;> try (cases h;done)
 rename_i hz;obtain rfl:=bv (g:=fun n:Nat=>ii (n:Int)) pJ h
 exact⟨_,rfl,bd hz⟩
theorem fB(z:Z)(c:List Nat)(m:Nat):(PV.sl z (nn c)).ltB m=true:=cb m c
theorem m7:∀{es:List PV} {l:List Sn},dM l7 es=some l->l.map nof=l
 |[],l,h=>by cases h;rfl
 |x::es,l,h=>by
  simp only[dM]at h;split at h <;> try (cases h;done)
  rename_i a b h1 h2;cases h;have ih:=m7 h2;have:nof a=a:=by
   unfold l7 at h1;split at h1 <;> try (cases h1;done)
   split at h1 <;> cases h1
   rfl
  rw[EE,this,ih]
theorem eV{v:PV}{n:Nt}{z:Z}{l:List Sn}(h:eS v=some (n,z,l)):l.map nof=l:=by
 unfold eS at h;split at h <;> try (cases h;done)
 split at h <;> try (cases h;done)
 rename_i h1;split at h <;> cases h
 exact m7 h1
theorem dt{n:Nt}{z:Z}{l:List Sn}(hz:z=.n->l=[])(hl:l.map nof=l):eS (.agg (plC n z l))=some (n,z,l):=by rw[lY n z l hz,hl]
abbrev pdC(n:Nt)(z:Z)(l:List Sn)(zc:Z)(c:List Nat):List PV:=[ii n.b,ii n.w0.1,ii n.w0.2,ii n.w1.1,ii n.w1.2,ii n.w2.1,ii n.w2.2,.sl z (l.map cH),.sl zc (nn c)]
theorem mY(n:Nt)(z:Z)(l:List Sn)(zc:Z)(c:List Nat):ad (pdC n z l zc c)=true:=by simp[ad,PV.closed,ay,aO]
theorem rH(m:Nat)(n:Nt)(z:Z)(l:List Sn)(zc:Z)(c:List Nat):(PV.agg (pdC n z l zc c)).ltB m=true:=bq m _ (mY n z l zc c)
structure Pd where
 n:Nt
 z:Z
 l:List Sn
 zc:Z
 c:List Nat
structure Pd.Ok(p:Pd):Prop where
 hz:p.z=.n->p.l=[]
 hc:p.zc=.n->p.c=[]
 hl:p.l.map nof=p.l
abbrev Pd.cells(p:Pd):List PV:=pdC p.n p.z p.l p.zc p.c
def na:PV->Option Pd
 |.agg [.int .i64 b,.int .i64 a0,.int .i64 b0,.int .i64 a1,.int .i64 b1,.int .i64 a2,.int .i64 b2,.sl z es,.sl zc cs]=>match dM l7 es,dM decN cs with
  |some l,some c=>if zOk z es=true∧zOk zc cs=true then some ⟨⟨b,(a0,b0),(a1,b1),(a2,b2)⟩,z,l,zc,c⟩else none
  |_,_=>none
 |_=>none
theorem zv{v:PV}{p:Pd}(h:na v=some p):v=.agg p.cells∧p.Ok:=by
 unfold na at h;split at h <;> try (cases h;done)
 split at h <;> try (cases h;done)
 rename_i h1 h2;split at h <;> cases h
 rename_i hz;have hl:=m7 h1;obtain rfl:=bv qN h1;obtain rfl:=bv (g:=fun n:Nat=>ii (n:Int)) pJ h2
 exact⟨rfl,bd hz.1,bd hz.2,hl⟩
theorem jn{p:Pd}(h:p.Ok):na (.agg p.cells)=some p:=by
 obtain⟨n,z,l,zc,c⟩:=p;have h1:dM l7 (l.map cH)=some l:=by rw[decNss];exact congrArg some h.hl
 have h2:=decNN c;have h3:zOk z (l.map cH)=true:=zOkV h.hz;have h4:zOk zc (nn c)=true:=zOkV h.hc
 show(match dM l7 (l.map cH),dM decN (nn c)with
  |some l',some c'=>if zOk z (l.map cH)=true∧zOk zc (nn c)=true then some (⟨⟨n.b,(n.w0.1,n.w0.2),(n.w1.1,n.w1.2),(n.w2.1,n.w2.2)⟩,z,l',zc,c'⟩:Pd)else none
  |_,_=>none)=_
 rw[h1,h2];exact DZ ⟨h3,h4⟩
def smN(x:Int):Bool:=decide (-100000<=x)&&decide (x<=100000)
theorem kD{x:Int}:smN x=true↔-100000<=x∧x<=100000:=by unfold smN;simp
def smB(l:List Sn):Bool:=l.all fun x=>smN x.least&&smN x.most
def rgB(l:List Sn)(c:List Nat):Bool:=c.all fun i=>decide (i<l.length)
def fitB(l:List Sn)(c:List Nat):Bool:=smB l&&rgB l c&&decide (c.length<=1000)
structure FitC(l:List Sn)(c:List Nat):Prop where
 sm:∀x∈l,(-100000<=x.least∧x.least<=100000)∧-100000<=x.most∧x.most<=100000
 rg:∀i∈c,i<l.length
 ln:c.length<=1000
theorem dL{l:List Sn}{c:List Nat}:fitB l c=true↔FitC l c:=by
 unfold fitB smB rgB;simp only[D3,D7,kD,Eo];exact⟨fun h=>⟨h.1.1,h.1.2,h.2⟩,fun h=>⟨⟨h.sm,h.rg⟩,h.ln⟩⟩
theorem tw{k:Int}(hk:0<=k):∀(l:List Int),(∀x∈l,-k<=x∧x<=k)->-(k*l.length)<=l.sum∧l.sum<=k*l.length
 |[],_=>by simp
 |x::l,h=>by
  have ih:=tw hk l fun y hy=>h y (DW _ hy)
  have h1:=h x DV;rw[E3,Ek];have e:k*((l.length+1:Nat):Int)=k*(l.length:Int)+k:=by rw[Int.natCast_add,Int.mul_add];simp
  rw[e];omega
theorem xm{l:List Int}{i:Nat}{x:Int}(h:l[i]?=some x):(l.take (i+1)).sum=(l.take i).sum+x:=by
 rw[Ev,h,IT];simp
def smLB(l:List Int):Bool:=decide (l.length<=1000)&&l.all smN
theorem sum_274(z:Z)(l:List Int)(hz:z=.n->l=[])(hn:l.length<=1000)(hb:∀x∈l,-100000<=x∧x<=100000):ab prog 274 [.sl z (l.map ii)] [] (.ret (ii l.sum)) []:=by
 refine ab.of0 hTT func274 rfl rfl ?_;repeat with_reducible first|refine nz aa ?_|apply ny;simp only[f274,go_sem];rfl
 refine am.keep [8,7,6,3] (by simp only[go_sem];rfl) ?_
 refine am.loop (fun i s'=>s'=⟨[(8,ii (i:Nat)),(7,ii (l.length:Nat)),(6,.sl z (l.map ii)),(3,ii (l.take i).sum)],17,[]⟩) l.length (by first|(simp only[go_sem];first|done|rfl)|rfl) ?_
 rintro i _ hi rfl;by_cases hlt:i<l.length
 ·obtain⟨x,hx⟩:=gex hlt
  have hx':(l.map ii)[i]?=some (ii x):=aw hx;have hlt':(i:Int)<l.length:=by omega
  have hz':z≠.n:=fun e=>by rw[hz e]at hlt;simp at hlt
  have e4:=wIs i (by omega)
  have hs:=xm hx;have h1:=tw (k:=100000) (by decide) (l.take i) fun y hy=>hb y (Ey hy)
  have h2:((l.take i).length:Int)<=1000:=by rw[En];omega
  have h3:=hb x (DU hx);have e5:IntKind.i64.wrap ((l.take i).sum+x)=(l.take i).sum+x:=ai (by omega) (by omega)
  repeat with_reducible first|refine nz aa ?_|apply ny;simp only[f274,hx',hlt',hz',e4,e5,go_sem];rfl
  refine ak.t 0 [8,7,6,3] hlt (by simp only[aF,an,go_sem]) (by rw[hs];first|(simp only[go_sem];first|done|rfl)|rfl)
 ·have hlt':¬(i:Int)<l.length:=by omega
  obtain rfl:i=l.length:=by omega
  rw[Eg];repeat with_reducible first|refine nz aa ?_|apply ny;simp only[f274,hlt',go_sem];rfl
  exact⟨rfl,rfl,_,rfl,rfl⟩
def c274:Tb_
 |[v],sg=>match aN v with
  |some l=>if smLB l=true then some (.ret (ii l.sum),sg)else none
  |none=>none
 |_,_=>none
theorem c274_ok:al prog 274 c274:=al.of0 (ent func274 rfl) fun args sg r sg' h=>by
 unfold c274 at h;split at h <;> try (cases h;done)
 split at h <;> try (cases h;done)
 rename_i l h1;split at h <;> cases h
 rename_i hc;obtain⟨z,rfl,hz⟩:=aJ h1;unfold smLB at hc;simp only[D3,D7,kD,Eo]at hc;exact⟨_,rfl,rfl,by rw[af,bt];rfl,sum_274 z l hz hc.1 hc.2⟩
def cfB1:CallF:=aE cf0 274 (ei c274)
theorem pT:CallFOk prog cfB1:=ah aa c274_ok.snap
theorem mn{f:Sn->Int}{l:List Sn}{n:Nat}{x:Sn}(h:l[n]?=some x):fV f l n=f x:=by unfold fV;rw[h]
theorem cU{l:List Sn}{n:Nat}{x:Sn}(h:l[n]?=some x):(l.map cH)[n]?=some (.agg [ii x.part,ii x.least,ii x.most,.bool x.loose,ii (-1)]):=aw h
theorem AC{f:Sn->Int}{l:List Sn}{c:List Nat}(h:∀x∈l,-100000<=f x∧f x<=100000):smLB (c.map (fV f l))=true↔c.length<=1000:=by
 unfold smLB;simp only[D3,D7,kD,Eo,DX];refine⟨fun k=>k.1,fun k=>⟨k,fun y hy=>?_⟩⟩
 obtain⟨i,_,rfl⟩:=Ex.1 hy;unfold fV;cases hi:l[i]? with
 |none=>show -100000<=(0:Int)∧(0:Int)<=100000;omega
 |some x=>exact h x (DU hi)
theorem ye(p:Pd)(hp:p.Ok)(zs:Z)(c:List Nat)(hzs:zs=.n->c=[])(hf:FitC p.l c):ab prog 257 [.agg p.cells,.sl zs (nn c)] [] (.ret (ii (gu (·.least) p.l c))) []:=by
 refine ab.of0 hTT func257 rfl rfl ?_;obtain⟨n,z,l,zc,cc⟩:=p;obtain⟨hz,hzc,hl⟩:=hp;have hrg:∀i∈c,i<l.length:=hf.rg;have hln:=hf.ln;have hsm:smLB (c.map (fV (·.least) l))=true:=(AC (c:=c) fun x hx=>by have:=hf.sm x hx;omega).2 hln
 have hsum:gu (·.least) l c=(c.map (fV (·.least) l)).sum:=rfl
 dsimp only[Pd.cells];rw[hsum];repeat with_reducible first|refine nz aa ?_|apply ny;simp only[f257,cz,go_sem];rfl
 refine am.keep [10,9,8,5,2] (by simp only[go_sem];rfl) ?_
 refine am.nilRow 5 3 1 (by simp only[go_sem]) (by simp only[go_sem];rfl) (by simp only[go_sem];rfl) ?_
 refine am.loop (fun i s'=>s'=⟨[(10,ii (i:Nat)),(9,ii (c.length:Nat)),(8,.sl zs (nn c)),(5,.ms 1 i),(2,.bp 0 0)],27,[.var (pdC n z l zc cc) false,.row (decide (i=0)) 3 1 (((c.take i).map (fV (·.least) l)).map ii) false]⟩) c.length rfl ?_
 rintro i _ hi rfl;have hrow:(((c.take i).map (fV (·.least) l))).length=i:=by rw[DX,En];omega
 by_cases hlt:i<c.length
 ·obtain⟨x,hx⟩:=gex hlt
  have hx':=mz hx;have hxl:=hrg x (DU hx);obtain⟨y,hy⟩:=gex hxl;have hy':=cU hy;have hxl':(x:Int)<(l.length:Nat):=by omega
  have hlt':(i:Int)<c.length:=by omega
  have hzs':zs≠.n:=fun e=>by rw[hzs e]at hlt;simp at hlt
  have hz':z≠.n:=fun e=>by have:l=[]:=hz e;rw[this]at hxl;simp at hxl
  have e4:=wIs i (by omega)
  have l1:i+1<=maxLen:=by unfold maxLen;omega
  have l2:(i+1)*8<=140737488355328:=by omega
  have hd1:decide (i+1=0)=false:=by simp
  have hst:(c.take (i+1)).map (fV (·.least) l)=(c.take i).map (fV (·.least) l)++[y.least]:=by rw[Ev,hx,Ec];show _++[fV (·.least) l x]=_;rw[mn hy]
  generalize (c.take i).map (fV (·.least) l)=A at hrow hst ⊢
  repeat with_reducible first|refine nz aa ?_|apply ny;simp only[f257,hx',hxl',hy',hlt',hzs',hz',e4,l1,l2,hrow,cz,go_sem];rfl
  refine ak.t 2 [10,9,8,5,2] hlt (by simp only[aF,cb,aK,an,bJ,go_sem]) (by rw[hst,hd1];first|(simp only[Ec,go_sem];first|done|rfl)|rfl)
 ·have hlt':¬(i:Int)<c.length:=by omega
  obtain rfl:i=c.length:=by omega
  obtain⟨zf,hzf⟩:∃zf,zf=decide (c.length=0):=⟨_,rfl⟩;have hd:aN (.sl (if zf=true then .n else .a) ((c.map (fV (·.least) l)).map ii))=some (c.map (fV (·.least) l)):=aI (zOkV fun e=>by
   split at e
   ·rename_i h
    have:c=[]:=Ew.1 (Eu (hzf▸h))
    rw[this];rfl
   ·cases e)
  rw[Eg]at hrow ⊢;rw[←hzf];clear hzf;generalize c.map (fV (·.least) l)=A at hrow hd hsm ⊢
  have hcl:=ac A;repeat with_reducible first|refine nz pT ?_|apply ny;simp only[f257,cfB1,ei,c274,hlt',hd,hsm,hrow,hcl,go_sem];rfl
  exact⟨rfl,rfl,_,rfl,rfl⟩
def c257:Tb_
 |[v,w],sg=>match na v,gN w with
  |some p,some c=>if fitB p.l c=true then some (.ret (ii (gu (·.least) p.l c)),sg)else none
  |_,_=>none
 |_,_=>none
theorem c257_ok:al prog 257 c257:=al.of0 (ent func257 rfl) fun args sg r sg' h=>by
 unfold c257 at h;split at h <;> try (cases h;done)
 split at h <;> try (cases h;done)
 rename_i p c h1 h2;split at h <;> cases h
 rename_i hc;obtain⟨rfl,hp⟩:=zv h1;obtain⟨zs,rfl,hzs⟩:=cW h2;exact⟨_,rfl,rfl,by rw[af,af,rH,fB];rfl,ye p hp zs c hzs (dL.1 hc)⟩
theorem most_258(p:Pd)(hp:p.Ok)(zs:Z)(c:List Nat)(hzs:zs=.n->c=[])(hf:FitC p.l c):ab prog 258 [.agg p.cells,.sl zs (nn c)] [] (.ret (ii (gu (·.most) p.l c))) []:=by
 refine ab.of0 hTT func258 rfl rfl ?_;obtain⟨n,z,l,zc,cc⟩:=p;obtain⟨hz,hzc,hl⟩:=hp;have hrg:∀i∈c,i<l.length:=hf.rg;have hln:=hf.ln;have hsm:smLB (c.map (fV (·.most) l))=true:=(AC (c:=c) fun x hx=>by have:=hf.sm x hx;omega).2 hln
 have hsum:gu (·.most) l c=(c.map (fV (·.most) l)).sum:=rfl
 dsimp only[Pd.cells];rw[hsum];repeat with_reducible first|refine nz aa ?_|apply ny;simp only[f258,cz,go_sem];rfl
 refine am.keep [10,9,8,5,2] (by simp only[go_sem];rfl) ?_
 refine am.nilRow 5 3 1 (by simp only[go_sem]) (by simp only[go_sem];rfl) (by simp only[go_sem];rfl) ?_
 refine am.loop (fun i s'=>s'=⟨[(10,ii (i:Nat)),(9,ii (c.length:Nat)),(8,.sl zs (nn c)),(5,.ms 1 i),(2,.bp 0 0)],27,[.var (pdC n z l zc cc) false,.row (decide (i=0)) 3 1 (((c.take i).map (fV (·.most) l)).map ii) false]⟩) c.length rfl ?_
 rintro i _ hi rfl;have hrow:(((c.take i).map (fV (·.most) l))).length=i:=by rw[DX,En];omega
 by_cases hlt:i<c.length
 ·obtain⟨x,hx⟩:=gex hlt
  have hx':=mz hx;have hxl:=hrg x (DU hx);obtain⟨y,hy⟩:=gex hxl;have hy':=cU hy;have hxl':(x:Int)<(l.length:Nat):=by omega
  have hlt':(i:Int)<c.length:=by omega
  have hzs':zs≠.n:=fun e=>by rw[hzs e]at hlt;simp at hlt
  have hz':z≠.n:=fun e=>by have:l=[]:=hz e;rw[this]at hxl;simp at hxl
  have e4:=wIs i (by omega)
  have l1:i+1<=maxLen:=by unfold maxLen;omega
  have l2:(i+1)*8<=140737488355328:=by omega
  have hd1:decide (i+1=0)=false:=by simp
  have hst:(c.take (i+1)).map (fV (·.most) l)=(c.take i).map (fV (·.most) l)++[y.most]:=by rw[Ev,hx,Ec];show _++[fV (·.most) l x]=_;rw[mn hy]
  generalize (c.take i).map (fV (·.most) l)=A at hrow hst ⊢
  repeat with_reducible first|refine nz aa ?_|apply ny;simp only[f258,hx',hxl',hy',hlt',hzs',hz',e4,l1,l2,hrow,cz,go_sem];rfl
  refine ak.t 2 [10,9,8,5,2] hlt (by simp only[aF,cb,aK,an,bJ,go_sem]) (by rw[hst,hd1];first|(simp only[Ec,go_sem];first|done|rfl)|rfl)
 ·have hlt':¬(i:Int)<c.length:=by omega
  obtain rfl:i=c.length:=by omega
  obtain⟨zf,hzf⟩:∃zf,zf=decide (c.length=0):=⟨_,rfl⟩;have hd:aN (.sl (if zf=true then .n else .a) ((c.map (fV (·.most) l)).map ii))=some (c.map (fV (·.most) l)):=aI (zOkV fun e=>by
   split at e
   ·rename_i h
    have:c=[]:=Ew.1 (Eu (hzf▸h))
    rw[this];rfl
   ·cases e)
  rw[Eg]at hrow ⊢;rw[←hzf];clear hzf;generalize c.map (fV (·.most) l)=A at hrow hd hsm ⊢
  have hcl:=ac A;repeat with_reducible first|refine nz pT ?_|apply ny;simp only[f258,cfB1,ei,c274,hlt',hd,hsm,hrow,hcl,go_sem];rfl
  exact⟨rfl,rfl,_,rfl,rfl⟩
def c258:Tb_
 |[v,w],sg=>match na v,gN w with
  |some p,some c=>if fitB p.l c=true then some (.ret (ii (gu (·.most) p.l c)),sg)else none
  |_,_=>none
 |_,_=>none
theorem c258_ok:al prog 258 c258:=al.of0 (ent func258 rfl) fun args sg r sg' h=>by
 unfold c258 at h;split at h <;> try (cases h;done)
 split at h <;> try (cases h;done)
 rename_i p c h1 h2;split at h <;> cases h
 rename_i hc;obtain⟨rfl,hp⟩:=zv h1;obtain⟨zs,rfl,hzs⟩:=cW h2;exact⟨_,rfl,rfl,by rw[af,af,rH,fB];rfl,most_258 p hp zs c hzs (dL.1 hc)⟩
theorem ofP_at{l:List Sn}{c:List Nat}{i x:Nat}{y:Sn}{k:Int}(h:c[i]?=some x)(hy:l[x]?=some y):ofP l (c.take (i+1)) k=ofP l (c.take i) k++if y.part=k then[x]else[]:=by
 unfold ofP;rw[Ev,h,Ft]
 congr 1
 by_cases hk:y.part=k <;> simp[EZ,hy,hk]
theorem yg(l:List Sn)(c:List Nat)(k:Int):(ofP l c k).length<=c.length:=Fh ..
theorem ofP_mem{l:List Sn}{c:List Nat}{k:Int}{x:Nat}(h:x∈ofP l c k):x∈c:=(Gd.1 h).1
theorem lS{l:List Sn}{c:List Nat}(h:FitC l c)(k:Int):FitC l (ofP l c k):=⟨h.sm,fun i hi=>h.rg i (ofP_mem hi),Em (yg l c k) h.ln⟩
def nnV(c:List Nat):PV:=.sl (if decide (c.length=0)=true then .n else .a) (nn c)
theorem mA(c:List Nat):gN (nnV c)=some c:=dm fun e=>by
 split at e
 ·rename_i h
  exact Ew.1 (Eu h)
 ·cases e
theorem of_225(p:Pd)(hp:p.Ok)(k:Int)(hf:FitC p.l p.c):ab prog 225 [.agg p.cells,ii k] [] (.ret (nnV (ofP p.l p.c k))) []:=by
 refine ab.ofF hTT func225 rfl rfl ?_;obtain⟨n,z,l,zc,c⟩:=p;obtain⟨hz,hzc,hl⟩:=hp;have hrg:∀i∈c,i<l.length:=hf.rg;have hln:c.length<=1000:=hf.ln;dsimp only[Pd.cells];repeat with_reducible first|refine nz aa ?_|apply ny;simp only[f225,cz,go_sem];rfl
 refine am.keep [11,10,9,5,2,1] (by simp only[go_sem];rfl) ?_
 refine am.nilRow 5 3 1 (by simp only[go_sem]) (by simp only[go_sem];rfl) (by simp only[go_sem];rfl) ?_
 refine am.loop (fun i s'=>s'=⟨[(11,ii (i:Nat)),(10,ii (c.length:Nat)),(9,.sl zc (nn c)),(5,.ms 1 (ofP l (c.take i) k).length),(2,.bp 0 0),(1,ii k)],30,[.var (pdC n z l zc c) false,.row (decide ((ofP l (c.take i) k).length=0)) 3 1 (nn (ofP l (c.take i) k)) false]⟩) c.length rfl ?_
 rintro i _ hi rfl;by_cases hlt:i<c.length
 ·obtain⟨x,hx⟩:=gex hlt
  have hx':=mz hx;have hxl:=hrg x (DU hx);obtain⟨y,hy⟩:=gex hxl;have hy':=cU hy;have hxl':(x:Int)<(l.length:Nat):=by omega
  have hlt':(i:Int)<c.length:=by omega
  have hzs':zc≠.n:=fun e=>by have:c=[]:=hzc e;rw[this]at hlt;simp at hlt
  have hz':z≠.n:=fun e=>by have:l=[]:=hz e;rw[this]at hxl;simp at hxl
  have e4:=wIs i (by omega)
  have hal:=yg l (c.take i) k;rw[En]at hal;have hst:=ofP_at (k:=k) hx hy;generalize ofP l (c.take i) k=A at hst hal ⊢;have l1:A.length+1<=maxLen:=by unfold maxLen;omega
  have l2:(A.length+1)*8<=140737488355328:=by omega
  have hd1:decide (A.length+1=0)=false:=by simp
  by_cases hk:y.part=k
  ·have hkb:(y.part==k)=true:=FR.2 hk
   rw[DZ hk]at hst;repeat with_reducible first|refine nz aa ?_|apply ny;simp only[f225,hx',hxl',hy',hlt',hzs',hz',hkb,e4,l1,l2,cz,go_sem];rfl
   refine ak.t 2 [11,10,9,5,2,1] hlt (by simp only[cb,aK,an,bJ,go_sem]) (by rw[hst,oK,rQ,Ea];simp only[hd1,go_sem])
  ·have hkb:(y.part==k)=false:=EF.2 hk
   rw[D5 hk,Er]at hst;repeat with_reducible first|refine nz aa ?_|apply ny;simp only[f225,hx',hxl',hy',hlt',hzs',hz',hkb,e4,l1,l2,cz,go_sem];rfl
   refine ak.t 2 [11,10,9,5,2,1] hlt (by simp only[cb,aK,an,bJ,go_sem]) (by rw[hst];simp only[go_sem])
 ·have hlt':¬(i:Int)<c.length:=by omega
  obtain rfl:i=c.length:=by omega
  rw[Eg];repeat with_reducible first|refine nz aa ?_|apply ny;simp only[f225,hlt',go_sem];rfl
  unfold nnV;exact⟨rfl,rfl,_,rfl,leave_row (id:=1) rfl (aO _) (cz _).symm⟩
def xb:Tb_
 |[v,.int .i64 k],sg=>match na v with
  |some p=>if fitB p.l p.c=true then some (.ret (nnV (ofP p.l p.c k)),sg)else none
  |none=>none
 |_,_=>none
theorem c225_ok:al prog 225 xb:=al.of0 (ent func225 rfl) fun args sg r sg' h=>by
 unfold xb at h;split at h <;> try (cases h;done)
 split at h <;> try (cases h;done)
 rename_i p h1;split at h <;> cases h
 rename_i hc;obtain⟨rfl,hp⟩:=zv h1;exact⟨_,rfl,rfl,by rw[af,rH];rfl,of_225 p hp _ (dL.1 hc)⟩
def cfC2:CallF:=aE (aE cf0 257 c257) 258 c258
theorem cfC2_ok:CallFOk prog cfC2:=ah (ah aa c257_ok) c258_ok
theorem yE(p:Pd)(hp:p.Ok)(zs:Z)(c:List Nat)(hzs:zs=.n->c=[])(hf:fitB p.l c=true):ab prog 224 [.agg p.cells,.sl zs (nn c)] [] (.ret (.agg [ii (gu (·.least) p.l c),ii (gu (·.most) p.l c)])) []:=by
 refine ab.ofF hTT func224 rfl rfl ?_;have hd:=jn hp;have hn:=dm hzs;have hc1:=aO c;have hc2:=aO p.c;have hc3:=ay p.l;repeat with_reducible first|refine nz cfC2_ok ?_|apply ny;simp only[f224,cfC2,c257,c258,hd,hn,hf,hc1,hc2,hc3,bl,go_sem];rfl
 exact⟨rfl,rfl,_,rfl,aq rfl⟩
def xd:Tb_
 |[v,w],sg=>match na v,gN w with
  |some p,some c=>if fitB p.l c=true then some (.ret (.agg [ii (gu (·.least) p.l c),ii (gu (·.most) p.l c)]),sg)else none
  |_,_=>none
 |_,_=>none
theorem c224_ok:al prog 224 xd:=al.of0 (ent func224 rfl) fun args sg r sg' h=>by
 unfold xd at h;split at h <;> try (cases h;done)
 split at h <;> try (cases h;done)
 rename_i p c h1 h2;split at h <;> cases h
 rename_i hc;obtain⟨rfl,hp⟩:=zv h1;obtain⟨zs,rfl,hzs⟩:=cW h2;exact⟨_,rfl,rfl,by rw[af,af,rH,fB];rfl,yE p hp zs c hzs hc⟩
theorem mxI(a b:Int):(if b>a then b else a)=max a b:=by
 split <;> omega
theorem mnI(a b:Int):(if b<a then b else a)=min a b:=by
 split <;> omega
theorem both_226(a b:Int×Int):ab prog 226 [.agg [ii a.1,ii a.2],.agg [ii b.1,ii b.2]] [] (.ret (.agg [ii (max a.1 b.1),ii (min a.2 b.2)])) []:=by
 refine ab.ofF hTT func226 rfl rfl ?_;repeat with_reducible first|refine nz aa ?_|apply ny;simp only[f226,mxI,mnI,go_sem];rfl
 exact⟨rfl,rfl,_,rfl,aq rfl⟩
def c226:Tb_
 |[.agg [.int .i64 a,.int .i64 b],.agg [.int .i64 c,.int .i64 d]],sg=>some (.ret (.agg [ii (max a c),ii (min b d)]),sg)
 |_,_=>none
theorem c226_ok:al prog 226 c226:=al.of0 (ent func226 rfl) fun args sg r sg' h=>by
 unfold c226 at h;split at h <;> cases h
 exact⟨_,rfl,rfl,rfl,both_226 (_,_) (_,_)⟩
def unV(k f:Int):PV:=.iface 233 (.agg [ii k,ii f])
def xa(o:Int×Int)(h:Int)(w:Int×Int):Int:=if o.2+h<w.1 then 1 else 2
def fwdP(n:Nt)(l:List Sn)(c:List Nat):PRes:=match dg (n.b,n.b) (loP l c 0) (hiP l c 0) n.w0 with
 |none=>.pan (unV 0 (xa (n.b,n.b) (hiP l c 0) n.w0))
 |some o1=>match dg o1 (loP l c 1) (hiP l c 1) n.w1 with
  |none=>.pan (unV 1 (xa o1 (hiP l c 1) n.w1))
  |some o2=>match dg o2 (loP l c 2) (hiP l c 2) n.w2 with
   |none=>.pan (unV 2 (xa o2 (hiP l c 2) n.w2))
   |some o3=>.ret (.agg [ii n.b,ii n.b,ii o1.1,ii o1.2,ii o2.1,ii o2.2,ii o3.1,ii o3.2])
structure NtSm(n:Nt):Prop where
 b:-100000<=n.b∧n.b<=100000
 p0:-100000<=n.w0.1∧n.w0.1<=100000
 q0:-100000<=n.w0.2∧n.w0.2<=100000
 p1:-100000<=n.w1.1∧n.w1.1<=100000
 q1:-100000<=n.w1.2∧n.w1.2<=100000
 p2:-100000<=n.w2.1∧n.w2.1<=100000
 q2:-100000<=n.w2.2∧n.w2.2<=100000
def ntB(n:Nt):Bool:=smN n.b&&smN n.w0.1&&smN n.w0.2&&smN n.w1.1&&smN n.w1.2&&smN n.w2.1&&smN n.w2.2
theorem xW{n:Nt}:ntB n=true↔NtSm n:=by
 unfold ntB;simp only[D3,kD];exact⟨fun h=>⟨h.1.1.1.1.1.1,h.1.1.1.1.1.2,h.1.1.1.1.2,h.1.1.1.2,h.1.1.2,h.1.2,h.2⟩,fun h=>⟨⟨⟨⟨⟨⟨h.b,h.p0⟩,h.q0⟩,h.p1⟩,h.q1⟩,h.p2⟩,h.q2⟩⟩
theorem oZ{o p w:Int×Int}{a h k:Int}(ho1:-k<=o.1∧o.1<=k)(ho2:-k<=o.2∧o.2<=k)(ha:-100000000<=a∧a<=100000000)(hh:-100000000<=h∧h<=100000000)(hw1:-100000<=w.1∧w.1<=100000)(hw2:-100000<=w.2∧w.2<=100000)(hk:0<=k)(e:dg o a h w=some p):
 (-(k+100000000)<=p.1∧p.1<=k+100000000)∧-(k+100000000)<=p.2∧p.2<=k+100000000:=by
 unfold dg at e;split at e
 ·cases e
 ·split at e <;> cases e
  show(_<=max _ _∧max _ _<=_)∧_<=min _ _∧min _ _<=_
  omega
theorem xA{f:Sn->Int}{l:List Sn}(h:∀x∈l,-100000<=f x∧f x<=100000){c:List Nat}(hc:c.length<=1000):-100000000<=gu f l c∧gu f l c<=100000000:=by
 have:=tw (k:=100000) (by decide) (c.map (fV f l)) fun x hx=>by
  obtain⟨i,_,rfl⟩:=Ex.1 hx;unfold fV;cases hi:l[i]? with
  |none=>show -100000<=(0:Int)∧(0:Int)<=100000;omega
  |some y=>exact h y (DU hi)
 rw[DX]at this;unfold gu;omega
theorem sv{l:List Sn}{c:List Nat}(h:FitC l c)(k:Int):(-100000000<=loP l c k∧loP l c k<=100000000)∧-100000000<=hiP l c k∧hiP l c k<=100000000 :=
 ⟨xA (fun x hx=>(h.sm x hx).1) (lS h k).ln,xA (fun x hx=>(h.sm x hx).2) (lS h k).ln⟩
def cfC3:CallF:=aE (aE (aE (aE cf0 225 xb) 224 xd) 191 tH) 226 c226
theorem cB:CallFOk prog cfC3:=ah (ah (ah (ah aa c225_ok) c224_ok) zX) c226_ok
def fwdQ(n:Nt)(l:List Sn)(c:List Nat)(o:Out)(st':St):Prop:=match fwdP n l c with
 |.ret v=>o.ends=true∧aR [] st'.sg=true∧∃v',si TT st' f179.results=some v'∧bR 0 v' st'.sg=(v,[])
 |.pan v=>o=.panic v∧aR [] st'.sg=true
theorem sF(p:Pd)(hp:p.Ok)(hf:FitC p.l p.c)(hn:NtSm p.n)(cc:Code)(hcc:f179.body=some cc):am prog cc ⟨ik 0 [.agg p.cells],69,[]⟩ (fwdQ p.n p.l p.c):=by
 obtain rfl:=Option.some.inj (show some _=some cc from hcc)
 clear hcc;have hd:=jn hp;obtain⟨n,z,l,zc,c⟩:=p;obtain⟨hz,hzc,hl⟩:=hp;have hf:FitC l c:=hf;have hn:NtSm n:=hn;have hpl:eS (.agg (plC n z l))=some (n,z,l):=dt hz hl;have hfb:=dL.2 hf;have hc2:=aO c;have hc3:=ay l;dsimp only[Pd.cells]at hd ⊢;obtain⟨n1,n2,n3,n4,n5,n6,n7⟩:=hn;have g0:=sv hf 0;have g1:=sv hf 1;have g2:=sv hf 2;have j0:gu (·.least) l (ofP l c 0)=loP l c 0:=rfl
 have j1:gu (·.least) l (ofP l c 1)=loP l c 1:=rfl
 have j2:gu (·.least) l (ofP l c 2)=loP l c 2:=rfl
 have i0:gu (·.most) l (ofP l c 0)=hiP l c 0:=rfl
 have i1:gu (·.most) l (ofP l c 1)=hiP l c 1:=rfl
 have i2:gu (·.most) l (ofP l c 2)=hiP l c 2:=rfl
 have f0:=dL.2 (lS hf 0);have f1:=dL.2 (lS hf 1);have f2:=dL.2 (lS hf 2);have d0:=mA (ofP l c 0);have d1:=mA (ofP l c 1);have d2:=mA (ofP l c 2);have w0:nu n 0=n.w0:=rfl;have w1:nu n 1=n.w1:=rfl;have w2:nu n 2=n.w2:=rfl;have cl0:=aO (ofP l c 0);obtain⟨y0,hnv0⟩:∃y,nnV (ofP l c 0)=.sl y (nn (ofP l c 0)):=⟨_,rfl⟩;rw[hnv0]at d0;have cl1:=aO (ofP l c 1);obtain⟨y1,hnv1⟩:∃y,nnV (ofP l c 1)=.sl y (nn (ofP l c 1)):=⟨_,rfl⟩;rw[hnv1]at d1;have cl2:=aO (ofP l c 2);obtain⟨y2,hnv2⟩:∃y,nnV (ofP l c 2)=.sl y (nn (ofP l c 2)):=⟨_,rfl⟩;rw[hnv2]at d2;have hQ:fwdQ n l c=fun o st'=>(match fwdP n l c with
  |.ret v=>o.ends=true∧aR [] st'.sg=true∧∃v',si TT st' f179.results=some v'∧bR 0 v' st'.sg=(v,[])
  |.pan v=>o=.panic v∧aR [] st'.sg=true):=rfl
 rw[hQ];clear hQ;have hP:fwdP n l c=match dg (n.b,n.b) (loP l c 0) (hiP l c 0) n.w0 with
  |none=>.pan (unV 0 (xa (n.b,n.b) (hiP l c 0) n.w0))
  |some o1=>match dg o1 (loP l c 1) (hiP l c 1) n.w1 with
   |none=>.pan (unV 1 (xa o1 (hiP l c 1) n.w1))
   |some o2=>match dg o2 (loP l c 2) (hiP l c 2) n.w2 with
    |none=>.pan (unV 2 (xa o2 (hiP l c 2) n.w2))
    |some o3=>.ret (.agg [ii n.b,ii n.b,ii o1.1,ii o1.2,ii o2.1,ii o2.2,ii o3.1,ii o3.2]):=rfl
 generalize fwdP n l c=FP at hP ⊢;generalize hD0:ofP l c 0=D0 at *;generalize hD1:ofP l c 1=D1 at *;generalize hD2:ofP l c 2=D2 at *;generalize loP l c 0=a0 at *;generalize loP l c 1=a1 at *;generalize loP l c 2=a2 at *;generalize hiP l c 0=h0 at *;generalize hiP l c 1=h1 at *;generalize hiP l c 2=h2 at *;obtain⟨b,⟨p0,q0⟩,⟨p1,q1⟩,⟨p2,q2⟩⟩:=n;simp only at n1 n2 n3 n4 n5 n6 n7 hP w0 w1 w2 hd hpl ⊢;repeat with_reducible first|refine nz aa ?_|apply ny;simp only[f179,go_sem];rfl
 refine am.keep [16,3,2,1] (by simp only[go_sem];rfl) ?_
 obtain⟨ST,hST⟩:∃ST:Int->List PV->St,ST=fun i cs=>⟨[(16,ii i),(3,.bp 2 0),(2,.bp 1 0),(1,.bp 0 0)],69,[.var (pdC ⟨b,(p0,q0),(p1,q1),(p2,q2)⟩ z l zc c) false,.var [ii 0,ii 0,ii 0,ii 0,ii 0,ii 0,ii 0,ii 0] false,.var cs false]⟩:=⟨_,rfl⟩
 refine am.loop (fun i s'=>(i=0∧s'=ST 0 [ii b,ii b,ii 0,ii 0,ii 0,ii 0,ii 0,ii 0]) ∨
  (i=1∧∃x y:Int,dg (b,b) a0 h0 (p0,q0)=some (x,y)∧s'=ST 1 [ii b,ii b,ii x,ii y,ii 0,ii 0,ii 0,ii 0]) ∨
  (i=2∧∃x y u v:Int,dg (b,b) a0 h0 (p0,q0)=some (x,y)∧dg (x,y) a1 h1 (p1,q1)=some (u,v)∧s'=ST 2 [ii b,ii b,ii x,ii y,ii u,ii v,ii 0,ii 0]) ∨
  (i=3∧∃x y u v r t:Int,dg (b,b) a0 h0 (p0,q0)=some (x,y)∧dg (x,y) a1 h1 (p1,q1)=some (u,v)∧dg (u,v) a2 h2 (p2,q2)=some (r,t)∧s'=ST 3 [ii b,ii b,ii x,ii y,ii u,ii v,ii r,ii t])) 3 (.inl ⟨rfl,by rw[hST]⟩) ?_
 rintro i s' hi hI;rcases hI with ⟨rfl,rfl⟩|⟨rfl,x,y,s0,rfl⟩|⟨rfl,x,y,u,v,s0,s1,rfl⟩|⟨rfl,x,y,u,v,r,t,s0,s1,s2,rfl⟩
 ·have hlt:0<3:=by decide
  have hsp:dg (b,b) a0 h0 (p0,q0)=if b+h0<p0 then none else if q0<b+a0 then none else some (max (b+a0) p0,min (b+h0) q0):=rfl;have v1:IntKind.i64.wrap (b+a0)=b+a0:=ai (by omega) (by omega)
  have v2:IntKind.i64.wrap (b+h0)=b+h0:=ai (by omega) (by omega)
  have v3:IntKind.i64.wrap 1=1:=rfl;by_cases c1:b+h0<p0
  ·rw[DZ c1]at hsp
   rw[hsp]at hP;have hfl:xa (b,b) h0 (p0,q0)=1:=DZ c1;dsimp only at hP;rw[hfl]at hP;subst hP;subst hST;dsimp only;repeat with_reducible first|refine nz cB ?_|apply ny;simp only[f179,cfC3,xb,xd,tH,hd,hpl,hfb,hc2,hc3,d0,f0,j0,i0,w0,cl0,hnv0,hD0,v1,v2,v3,c1,TyD.ifc,go_sem];rfl
   refine lx.stop (v:=unV 0 1) (by simp only[go_sem];rfl) ?_
   repeat with_reducible first|refine nz aa ?_|apply ny;simp only[f179,go_sem];rfl
   exact⟨rfl,rfl⟩
  rw[D5 c1]at hsp;by_cases c2:q0<b+a0
  ·rw[DZ c2]at hsp
   rw[hsp]at hP;have hfl:xa (b,b) h0 (p0,q0)=2:=D5 c1;dsimp only at hP;rw[hfl]at hP;subst hP;subst hST;dsimp only;repeat with_reducible first|refine nz cB ?_|apply ny;simp only[f179,cfC3,xb,xd,tH,hd,hpl,hfb,hc2,hc3,d0,f0,j0,i0,w0,cl0,hnv0,hD0,v1,v2,v3,c1,c2,TyD.ifc,EW,go_sem];rfl
   refine lx.stop (v:=unV 0 2) (by simp only[go_sem];rfl) ?_
   repeat with_reducible first|refine nz aa ?_|apply ny;simp only[f179,go_sem];rfl
   exact⟨rfl,rfl⟩
  rw[D5 c2]at hsp;generalize hN1:max (b+a0) p0=N1 at hsp;generalize hN2:min (b+h0) q0=N2 at hsp;clear hP;subst hST;dsimp only;repeat with_reducible first|refine nz cB ?_|apply ny;simp only[f179,cfC3,xb,xd,tH,c226,hd,hpl,hfb,hc2,hc3,d0,f0,j0,i0,w0,cl0,hnv0,hD0,v1,v2,v3,c1,c2,hN1,hN2,EW,go_sem];rfl
  refine ak.t 3 [16,3,2,1] hlt (by simp only[cb,aK,an,go_sem]) (.inr (.inl ⟨rfl,N1,N2,hsp,by simp only[go_sem]⟩))
 ·have hlt:1<3:=by decide
  have b1:=oZ (k:=100000) n1 n1 g0.1 g0.2 n2 n3 (by decide) s0
  simp only at b1;rw[s0]at hP;dsimp only at hP;have hsp:dg (x,y) a1 h1 (p1,q1)=if y+h1<p1 then none else if q1<x+a1 then none else some (max (x+a1) p1,min (y+h1) q1):=rfl;have v1:IntKind.i64.wrap (x+a1)=x+a1:=ai (by omega) (by omega)
  have v2:IntKind.i64.wrap (y+h1)=y+h1:=ai (by omega) (by omega)
  have v3:IntKind.i64.wrap 2=2:=rfl;by_cases c1:y+h1<p1
  ·rw[DZ c1]at hsp
   rw[hsp]at hP;have hfl:xa (x,y) h1 (p1,q1)=1:=DZ c1;dsimp only at hP;rw[hfl]at hP;subst hP;subst hST;dsimp only;repeat with_reducible first|refine nz cB ?_|apply ny;simp only[f179,cfC3,xb,xd,tH,hd,hpl,hfb,hc2,hc3,d1,f1,j1,i1,w1,cl1,hnv1,hD1,v1,v2,v3,c1,TyD.ifc,go_sem];rfl
   refine lx.stop (v:=unV 1 1) (by simp only[go_sem];rfl) ?_
   repeat with_reducible first|refine nz aa ?_|apply ny;simp only[f179,go_sem];rfl
   exact⟨rfl,rfl⟩
  rw[D5 c1]at hsp;by_cases c2:q1<x+a1
  ·rw[DZ c2]at hsp
   rw[hsp]at hP;have hfl:xa (x,y) h1 (p1,q1)=2:=D5 c1;dsimp only at hP;rw[hfl]at hP;subst hP;subst hST;dsimp only;repeat with_reducible first|refine nz cB ?_|apply ny;simp only[f179,cfC3,xb,xd,tH,hd,hpl,hfb,hc2,hc3,d1,f1,j1,i1,w1,cl1,hnv1,hD1,v1,v2,v3,c1,c2,TyD.ifc,EW,go_sem];rfl
   refine lx.stop (v:=unV 1 2) (by simp only[go_sem];rfl) ?_
   repeat with_reducible first|refine nz aa ?_|apply ny;simp only[f179,go_sem];rfl
   exact⟨rfl,rfl⟩
  rw[D5 c2]at hsp;generalize hN1:max (x+a1) p1=N1 at hsp;generalize hN2:min (y+h1) q1=N2 at hsp;clear hP;subst hST;dsimp only;repeat with_reducible first|refine nz cB ?_|apply ny;simp only[f179,cfC3,xb,xd,tH,c226,hd,hpl,hfb,hc2,hc3,d1,f1,j1,i1,w1,cl1,hnv1,hD1,v1,v2,v3,c1,c2,hN1,hN2,EW,go_sem];rfl
  refine ak.t 3 [16,3,2,1] hlt (by simp only[cb,aK,an,go_sem]) (.inr (.inr (.inl ⟨rfl,x,y,N1,N2,s0,hsp,by simp only[go_sem]⟩)))
 ·have hlt:2<3:=by decide
  have b0:=oZ (k:=100000) n1 n1 g0.1 g0.2 n2 n3 (by decide) s0
  simp only at b0;have b1:=oZ (k:=100100000) (by simp only;omega) (by simp only;omega) g1.1 g1.2 n4 n5 (by decide) s1
  simp only at b1;rw[s0]at hP;dsimp only at hP;rw[s1]at hP;dsimp only at hP;have hsp:dg (u,v) a2 h2 (p2,q2)=if v+h2<p2 then none else if q2<u+a2 then none else some (max (u+a2) p2,min (v+h2) q2):=rfl;have v1:IntKind.i64.wrap (u+a2)=u+a2:=ai (by omega) (by omega)
  have v2:IntKind.i64.wrap (v+h2)=v+h2:=ai (by omega) (by omega)
  have v3:IntKind.i64.wrap 3=3:=rfl;by_cases c1:v+h2<p2
  ·rw[DZ c1]at hsp
   rw[hsp]at hP;have hfl:xa (u,v) h2 (p2,q2)=1:=DZ c1;dsimp only at hP;rw[hfl]at hP;subst hP;subst hST;dsimp only;repeat with_reducible first|refine nz cB ?_|apply ny;simp only[f179,cfC3,xb,xd,tH,hd,hpl,hfb,hc2,hc3,d2,f2,j2,i2,w2,cl2,hnv2,hD2,v1,v2,v3,c1,TyD.ifc,go_sem];rfl
   refine lx.stop (v:=unV 2 1) (by simp only[go_sem];rfl) ?_
   repeat with_reducible first|refine nz aa ?_|apply ny;simp only[f179,go_sem];rfl
   exact⟨rfl,rfl⟩
  rw[D5 c1]at hsp;by_cases c2:q2<u+a2
  ·rw[DZ c2]at hsp
   rw[hsp]at hP;have hfl:xa (u,v) h2 (p2,q2)=2:=D5 c1;dsimp only at hP;rw[hfl]at hP;subst hP;subst hST;dsimp only;repeat with_reducible first|refine nz cB ?_|apply ny;simp only[f179,cfC3,xb,xd,tH,hd,hpl,hfb,hc2,hc3,d2,f2,j2,i2,w2,cl2,hnv2,hD2,v1,v2,v3,c1,c2,TyD.ifc,EW,go_sem];rfl
   refine lx.stop (v:=unV 2 2) (by simp only[go_sem];rfl) ?_
   repeat with_reducible first|refine nz aa ?_|apply ny;simp only[f179,go_sem];rfl
   exact⟨rfl,rfl⟩
  rw[D5 c2]at hsp;generalize hN1:max (u+a2) p2=N1 at hsp;generalize hN2:min (v+h2) q2=N2 at hsp;clear hP;subst hST;dsimp only;repeat with_reducible first|refine nz cB ?_|apply ny;simp only[f179,cfC3,xb,xd,tH,c226,hd,hpl,hfb,hc2,hc3,d2,f2,j2,i2,w2,cl2,hnv2,hD2,v1,v2,v3,c1,c2,hN1,hN2,EW,go_sem];rfl
  refine ak.t 3 [16,3,2,1] hlt (by simp only[cb,aK,an,go_sem]) (.inr (.inr (.inr ⟨rfl,x,y,u,v,N1,N2,s0,s1,hsp,by simp only[go_sem]⟩)))
 ·rw[s0]at hP
  dsimp only at hP;rw[s1]at hP;dsimp only at hP;rw[s2]at hP;dsimp only at hP;subst hP;subst hST;dsimp only;repeat with_reducible first|refine nz aa ?_|apply ny;simp only[f179,go_sem];rfl
  exact⟨rfl,rfl,_,rfl,aq rfl⟩
theorem sU(p:Pd)(hp:p.Ok)(hf:FitC p.l p.c)(hn:NtSm p.n):ab prog 179 [.agg p.cells] [] (fwdP p.n p.l p.c) []:=by
 have h:=sF p hp hf hn _ rfl;cases hx:fwdP p.n p.l p.c with
 |pan v =>
  have hv:∃k f,v=unV k f:=by
   unfold fwdP at hx;split at hx
   ·cases hx;exact⟨_,_,rfl⟩
   ·split at hx
    ·cases hx;exact⟨_,_,rfl⟩
    ·split at hx <;> cases hx
     exact⟨_,_,rfl⟩
  obtain⟨k,f,rfl⟩:=hv;refine ab.ofPan func179 rfl rfl ?_ (av (unV k f) rfl);have hQ:fwdQ p.n p.l p.c=fun o st'=>o=.panic (unV k f)∧aR [] st'.sg=true:=by funext o st';unfold fwdQ;rw[hx]
  rw[hQ]at h;exact h
 |ret v =>
  refine ab.ofF hTT func179 rfl rfl ?_;have hQ:fwdQ p.n p.l p.c=fun o st'=>o.ends=true∧aR [] st'.sg=true∧∃v',si TT st' f179.results=some v'∧bR 0 v' st'.sg=(v,[]):=by funext o st';unfold fwdQ;rw[hx]
  rw[hQ]at h;exact h
theorem fwd_can(n:Nt)(l:List Sn)(c:List Nat):(∃v,fwdP n l c=.ret v∧lE n l c=true)∨(∃k f,fwdP n l c=.pan (unV k f)∧lE n l c=false):=by
 unfold fwdP lE fwdB;cases dg (n.b,n.b) (loP l c 0) (hiP l c 0) n.w0 with
 |none=>exact .inr ⟨_,_,rfl,rfl⟩
 |some o1 =>
  dsimp only;cases dg o1 (loP l c 1) (hiP l c 1) n.w1 with
  |none=>exact .inr ⟨_,_,rfl,rfl⟩
  |some o2 =>
   dsimp only;cases dg o2 (loP l c 2) (hiP l c 2) n.w2 with
   |none=>exact .inr ⟨_,_,rfl,rfl⟩
   |some o3=>exact .inl ⟨_,rfl,rfl⟩
theorem can_131(p:Pd)(hp:p.Ok)(hf:FitC p.l p.c)(hn:NtSm p.n):ab prog 131 [.agg p.cells] [] (.ret (.bool (lE p.n p.l p.c))) []:=by
 refine ab.of0 hTT func131 rfl rfl ?_;have hfw:=sU p hp hf hn;have hcl:ad p.cells=true:=mY _ _ _ _ _;have hbl:∀x∈[Box.var p.cells false],x.Lt 1:=fun x hx=>by
  rw[Ed.1 hx];exact CA hcl
 have hbl3:∀x∈[Box.var p.cells false]++[.var [ii 0,ii 0] false,.var [ii 0] false],x.Lt 3:=fun x hx=>by
  rcases Ez.1 hx with hx|hx
  ·exact(hbl x hx).mono (by simp)
  ·simp only[D6,Eb,EM]at hx
   rcases hx with rfl|rfl <;> exact CA rfl
 have hla:∀x∈[PV.agg p.cells],Pv.Lt 0 x:=fun x hx=>by
  rw[Ed.1 hx];exact av _ hcl
 have hvw:=aO p.c;have hvs:=ay p.l;rcases fwd_can p.n p.l p.c with ⟨v,hv,hc⟩|⟨k,f,hv,hc⟩
 ·rw[hv]at hfw
  have hfr:=hfw.frame hla ([Box.var p.cells false]++[.var [ii 0,ii 0] false,.var [ii 0] false]);have h178:ab prog 178 ([]++([]++[.bp 0 0])) ([Box.var p.cells false]++[.var [ii 0,ii 0] false,.var [ii 0] false]) (.ret (.tuple [])) ([Box.var p.cells false]++[.var [ii 0,ii 0] false,.var [ii 0] false]):=by
   refine ab.ofB hTT func178 rfl rfl ?_ rfl hbl3 (.tuple (fun c hc=>by cases hc))
   repeat with_reducible first|refine nz (ar aa (ent func179 rfl) hfr (SameLoops.refl _)) ?_|apply ny;simp only[f178,cp,go_sem];rfl
   exact⟨rfl,SameLoops.refl _,rfl,[],by simp⟩
  have h177:ab prog 177 [.fn (.func 178) [] [.bp 0 0]] [Box.var p.cells false] (.ret (.tuple [.agg [ii 0,ii 0],ii 0])) [Box.var p.cells false]:=(nA (ent func178 rfl) h178 (SameLoops.refl _) rfl rfl).cut hbl (av (.tuple [.agg [ii 0,ii 0],ii 0]) rfl|>.mono (Ee _));rw[hc];repeat with_reducible first|refine nz (ar aa (ent func177 rfl) h177 (SameLoops.refl _)) ?_|apply ny;simp only[f131,cp,bl,go_sem];rfl
  exact⟨rfl,rfl,_,rfl,rfl⟩
 ·rw[hv]at hfw
  have hfr:=hfw.framePan hla ([Box.var p.cells false]++[.var [ii 0,ii 0] false,.var [ii 0] false]);have h178:ab prog 178 ([]++([]++[.bp 0 0])) ([Box.var p.cells false]++[.var [ii 0,ii 0] false,.var [ii 0] false]) (.pan (unV k f)) ([Box.var p.cells false]++[.var [ii 0,ii 0] false,.var [ii 0] false]):=by
   refine ab.ofPanB func178 rfl rfl ?_ rfl hbl3 (av (unV k f) rfl|>.mono (Ee _));repeat with_reducible first|refine nz (ar aa (ent func179 rfl) hfr (SameLoops.refl _)) ?_|apply ny;simp only[f178,cp,go_sem];rfl
   refine lx.stop (v:=unV k f) (by first|(simp only[cp,go_sem];first|done|rfl)|rfl) ?_
   repeat with_reducible first|refine nz aa ?_|apply ny;simp only[f178,go_sem];rfl
   exact⟨rfl,SameLoops.refl _,[],by simp⟩
  have h177:ab prog 177 [.fn (.func 178) [] [.bp 0 0]] [Box.var p.cells false] (.ret (.tuple [.agg [ii k,ii f],ii 5])) [Box.var p.cells false]:=(nR (d:=ii 0) k f rfl (ent func178 rfl) h178 (SameLoops.refl _) rfl rfl).cut hbl (av (.tuple [.agg [ii k,ii f],ii 5]) rfl|>.mono (Ee _));rw[hc];have b5:((5:Int)==0)=false:=rfl;repeat with_reducible first|refine nz (ar aa (ent func177 rfl) h177 (SameLoops.refl _)) ?_|apply ny;simp only[f131,cp,b5,bl,go_sem];rfl
  exact⟨rfl,rfl,_,rfl,rfl⟩
def c131:Tb_
 |[v],sg=>match na v with
  |some p=>if fitB p.l p.c=true∧ntB p.n=true then some (.ret (.bool (lE p.n p.l p.c)),sg)else none
  |none=>none
 |_,_=>none
theorem xU:al prog 131 c131:=al.of0 (ent func131 rfl) fun args sg r sg' h=>by
 unfold c131 at h;split at h <;> try (cases h;done)
 split at h <;> try (cases h;done)
 rename_i p h1;split at h <;> cases h
 rename_i hc;obtain⟨rfl,hp⟩:=zv h1;exact⟨_,rfl,rfl,by rw[af,rH];rfl,can_131 p hp (dL.1 hc.1) (xW.1 hc.2)⟩
end Go.Pv
