import Derived.Test.YtkjalecddameoaaGreatDoorQmNt
import Derived.Test.YtkjalecddameoaaGreatDoorQiPut
set_option linter.all false
open Go.Proofs.Tryz
namespace Go.Pv
open Go Go.RowKit Go.Proofs
set_option maxRecDepth 200000
set_option maxHeartbeats 8000000
theorem in_125(x a b:Int):ab prog 125 [ii x,ii a,ii b] [] (.ret (.bool (inB x a b))) []:=by
 refine ab.of0 hTT func125 rfl rfl ?_;unfold inB;by_cases h1:a<=x <;> by_cases h2:x<=b
 all_goals
  repeat with_reducible first|refine nz aa ?_|apply ny;simp only[f125,EO,h1,h2,go_sem];rfl
  refine⟨rfl,rfl,_,rfl,?_⟩;simp only[h1,h2];rfl
theorem xH:al prog 125 cin:=al.of0 (ent func125 rfl) fun args sg r sg' h=>by
 unfold cin at h;split at h <;> cases h
 exact⟨_,rfl,rfl,rfl,in_125 _ _ _⟩
def cfW:CallF:=aE cf0 125 cin
theorem bS:CallFOk prog cfW:=ah aa xH
theorem wI(w:Int×Int):ab prog 126 [.agg [ii w.1,ii w.2]] [] (.ret (.bool (fD w))) []:=by
 refine ab.of0 hTT func126 rfl rfl ?_;unfold fD;cases a1:inB w.1 0 900
 ·repeat with_reducible first|refine nz bS ?_|apply ny;simp only[f126,cfW,cin,a1,go_sem];rfl
  exact⟨rfl,rfl,_,rfl,rfl⟩
 cases a2:inB w.2 w.1 900
 ·repeat with_reducible first|refine nz bS ?_|apply ny;simp only[f126,cfW,cin,a1,a2,go_sem];rfl
  exact⟨rfl,rfl,_,rfl,rfl⟩
 have b1:=bm.1 a1;have b2:=bm.1 a2;have e1:IntKind.i64.wrap (w.2-w.1)=w.2-w.1:=ai (by omega) (by omega)
 repeat with_reducible first|refine nz bS ?_|apply ny;simp only[f126,cfW,cin,a1,a2,e1,go_sem];rfl
 exact⟨rfl,rfl,_,rfl,rfl⟩
def c126:Tb_
 |[v],sg=>match decW v with
  |some w=>some (.ret (.bool (fD w)),sg)
  |none=>none
 |_,_=>none
theorem c126_ok:al prog 126 c126:=al.of0 (ent func126 rfl) fun args sg r sg' h=>by
 unfold c126 at h;split at h <;> try (cases h;done)
 split at h <;> cases h
 rename_i w h1;obtain rfl:=uM h1;exact⟨_,rfl,rfl,rfl,wI w⟩
theorem part_at{l:List Sn}{i:Nat}{y:Sn}(h0:0<i)(h:l[i-1]?=some y):gT l i=y.part:=by
 obtain⟨j,rfl⟩:∃j,i=j+1:=⟨i-1,by omega⟩
 exact mP h
theorem wT(n:Nt)(z:Z)(l:List Sn)(hz:z=.n->l=[])(hl:l.length<=1000):ab prog 127 [.agg (plC n z l)] [] (.ret (.bool (kK 0 l&&decide (bI l<=6)))) []:=by
 refine ab.of0 hTT func127 rfl rfl ?_;have hcl:=ay l;repeat with_reducible first|refine nz aa ?_|apply ny;simp only[f127,go_sem];rfl
 refine am.keep [4,3,1] (by simp only[go_sem];rfl) ?_
 refine am.loop (fun i s'=>kK 0 l=kK (gT l i) (l.drop i)∧0<=gT l i∧s'=⟨[(4,ii (i:Nat)),(3,ii (bI (l.take i):Nat)),(1,.bp 0 0)],74,[.var (plC n z l) false]⟩) l.length ⟨rfl,EN _,by first|(simp only[go_sem];first|done|rfl)|rfl⟩ ?_
 rintro i _ hi ⟨hm,hp0,rfl⟩;by_cases hlt:i<l.length
 ·obtain⟨x,hx⟩:=gex hlt
  have hx':=cU hx;have hlt':(i:Int)<l.length:=by omega
  have hz':z≠.n:=fun e=>by rw[hz e]at hlt;simp at hlt
  have e4:=wIs i (by omega)
  have e5:IntKind.i64.wrap ((l.length:Int)-1)=(l.length:Int)-1:=ai (by omega) (by omega)
  have hpn:=mP hx;have hlo:=kj hx;have hll:=pF (l.take i);rw[En]at hll;rw[aP hx,kK]at hm;have q4:inB (-1) (-1) ((l.length:Int)-1)=true:=bm.2 (by omega)
  have q5:((-1:Int)==(i:Int))=false:=by rw[EF];omega
  have e6:IntKind.i64.wrap ((bI (l.take i):Int)+1)=((bI (l.take i)+1:Nat):Int):=ai (by omega) (by omega)
  cases c1:inB x.part 0 2
  ·have hb:inB x.part (gT l i) 2=false:=by
    cases h:inB x.part (gT l i) 2
    ·rfl
    ·have:=bm.1 h
     rw[bm.2 (by omega)]at c1;cases c1
   repeat with_reducible first|refine nz bS ?_|apply ny;simp only[f127,cfW,cin,hx',hlt',hz',c1,go_sem];rfl
   refine⟨rfl,rfl,_,rfl,?_⟩;rw[hm,hb];rfl
  have d1:=bm.1 c1;by_cases h0:i=0
  ·have hg:¬(0:Int)<(i:Int):=by omega
   have hpa:gT l i=0:=by subst h0;rfl
   rw[hpa]at hm;rw[c1]at hm;simp only[EJ]at hm;cases c2:inB x.least 1 240
   ·repeat with_reducible first|refine nz bS ?_|apply ny;simp only[f127,cfW,cin,hx',hlt',hz',c1,c2,hg,EW,go_sem];rfl
    refine⟨rfl,rfl,_,rfl,?_⟩;rw[hm,c2];rfl
   cases c3:inB x.most x.least 240
   ·repeat with_reducible first|refine nz bS ?_|apply ny;simp only[f127,cfW,cin,hx',hlt',hz',c1,c2,c3,hg,EW,go_sem];rfl
    refine⟨rfl,rfl,_,rfl,?_⟩;rw[hm,c2,c3];rfl
   rw[c2,c3]at hm;simp only[EJ]at hm;cases hxl:x.loose
   ·rw[hxl]at hlo hx'
    repeat with_reducible first|refine nz bS ?_|apply ny;simp only[f127,cfW,cin,hx',hlt',hz',c1,c2,c3,hg,q4,q5,e4,e5,EW,go_sem];rfl
    refine ak.t 1 [4,3,1] hlt (by simp only[aK,an,go_sem]) ⟨by rw[hm,hpn],by rw[hpn];exact d1.1,by rw[hlo];first|(simp only[go_sem];first|done|rfl)|rfl⟩
   ·rw[hxl]at hlo hx'
    repeat with_reducible first|refine nz bS ?_|apply ny;simp only[f127,cfW,cin,hx',hlt',hz',c1,c2,c3,hg,q4,q5,e4,e5,e6,EW,go_sem];rfl
    refine ak.t 1 [4,3,1] hlt (by simp only[aK,an,go_sem]) ⟨by rw[hm,hpn],by rw[hpn];exact d1.1,by rw[hlo];first|(simp only[go_sem];first|done|rfl)|rfl⟩
  ·have hg:(0:Int)<(i:Int):=by omega
   obtain⟨y,hy⟩:∃y,l[i-1]?=some y:=⟨_,DT (by omega)⟩
   have hy':=cU hy;have e7:IntKind.i64.wrap ((i:Int)-1)=((i-1:Nat):Int):=(ai (by omega) (by omega)).trans (by omega)
   have hlt2:((i-1:Nat):Int)<l.length:=by omega
   have hpa:gT l i=y.part:=part_at (by omega) hy
   rw[hpa]at hm hp0;generalize i-1=j at hy hy' e7 hlt2;by_cases c0:x.part<y.part
   ·have hb:inB x.part y.part 2=false:=by
     cases h:inB x.part y.part 2
     ·rfl
     ·have:=bm.1 h;omega
    repeat with_reducible first|refine nz bS ?_|apply ny;simp only[f127,cfW,cin,hx',hy',hlt',hlt2,hz',c0,c1,e7,hg,EW,go_sem];rfl
    refine⟨rfl,rfl,_,rfl,?_⟩;rw[hm,hb];rfl
   rw[bm.2 (show y.part<=x.part∧x.part<=2 by omega)]at hm
   simp only[EJ]at hm;cases c2:inB x.least 1 240
   ·repeat with_reducible first|refine nz bS ?_|apply ny;simp only[f127,cfW,cin,hx',hy',hlt',hlt2,hz',c0,c1,c2,e7,hg,EW,go_sem];rfl
    refine⟨rfl,rfl,_,rfl,?_⟩;rw[hm,c2];rfl
   cases c3:inB x.most x.least 240
   ·repeat with_reducible first|refine nz bS ?_|apply ny;simp only[f127,cfW,cin,hx',hy',hlt',hlt2,hz',c0,c1,c2,c3,e7,hg,EW,go_sem];rfl
    refine⟨rfl,rfl,_,rfl,?_⟩;rw[hm,c2,c3];rfl
   rw[c2,c3]at hm;simp only[EJ]at hm;cases hxl:x.loose
   ·rw[hxl]at hlo hx'
    repeat with_reducible first|refine nz bS ?_|apply ny;simp only[f127,cfW,cin,hx',hy',hlt',hlt2,hz',c0,c1,c2,c3,e7,hg,q4,q5,e4,e5,EW,go_sem];rfl
    refine ak.t 1 [4,3,1] hlt (by simp only[aK,an,go_sem]) ⟨by rw[hm,hpn],by rw[hpn];exact d1.1,by rw[hlo];first|(simp only[go_sem];first|done|rfl)|rfl⟩
   ·rw[hxl]at hlo hx'
    repeat with_reducible first|refine nz bS ?_|apply ny;simp only[f127,cfW,cin,hx',hy',hlt',hlt2,hz',c0,c1,c2,c3,e7,hg,q4,q5,e4,e5,e6,EW,go_sem];rfl
    refine ak.t 1 [4,3,1] hlt (by simp only[aK,an,go_sem]) ⟨by rw[hm,hpn],by rw[hpn];exact d1.1,by rw[hlo];first|(simp only[go_sem];first|done|rfl)|rfl⟩
 ·have hlt':¬(i:Int)<l.length:=by omega
  obtain rfl:i=l.length:=by omega
  rw[EL]at hm;rw[Eg];have hd:decide ((bI l:Int)<=6)=decide (bI l<=6):=by rw[Fa];omega
  repeat with_reducible first|refine nz bS ?_|apply ny;simp only[f127,hlt',hd,go_sem];rfl
  refine⟨rfl,rfl,_,rfl,?_⟩;rw[hm];rfl
def c127:Tb_
 |[v],sg=>match eS v with
  |some (_,_,l)=>if l.length<=1000 then some (.ret (.bool (kK 0 l&&decide (bI l<=6))),sg)else none
  |none=>none
 |_,_=>none
theorem c127_ok:al prog 127 c127:=al.of0 (ent func127 rfl) fun args sg r sg' h=>by
 unfold c127 at h;split at h <;> try (cases h;done)
 split at h <;> try (cases h;done)
 rename_i n z l h1;split at h <;> cases h
 rename_i hc;obtain⟨rfl,hz⟩:=b8 h1;exact⟨_,rfl,rfl,by rw[af,fi];rfl,wT n z l hz hc⟩
def cfW2:CallF:=aE (aE cfW 126 c126) 127 c127
theorem DP:CallFOk prog cfW2:=ah (ah bS c126_ok) c127_ok
theorem Plan_66(n:Nt)(z:Z)(l:List Sn)(hz:z=.n->l=[])(hl:l.map nof=l):ab prog 66 [.agg (plC n z l)] [] (.ret (.bool (du n l))) []:=by
 refine ab.of0 hTT func66 rfl rfl ?_;have hcl:=ay l;have hdn:=dt (n:=n) hz hl;have hpb:du n l=(inB n.b 0 900&&(fD n.w0&&(fD n.w1&&(fD n.w2&&(inB l.length 1 10&&(kK 0 l&&decide (bI l<=6))))))):=by
  unfold du evB;generalize inB n.b 0 900=b1;generalize inB l.length 1 10=b2;generalize fD n.w0=b3;generalize fD n.w1=b4;generalize fD n.w2=b5;generalize kK 0 l=b6;generalize decide (bI l<=6)=b7
  revert b1 b2 b3 b4 b5 b6 b7
  decide
 rw[hpb];have w0:decW (.agg [ii n.w0.1,ii n.w0.2])=some n.w0:=rfl;have w1:decW (.agg [ii n.w1.1,ii n.w1.2])=some n.w1:=rfl;have w2:decW (.agg [ii n.w2.1,ii n.w2.2])=some n.w2:=rfl;cases a1:inB n.b 0 900
 ·repeat with_reducible first|refine nz DP ?_|apply ny;simp only[f66,cfW2,cfW,cin,a1,go_sem];rfl
  exact⟨rfl,rfl,_,rfl,rfl⟩
 cases a2:fD n.w0
 ·repeat with_reducible first|refine nz DP ?_|apply ny;simp only[f66,cfW2,cfW,cin,c126,w0,a1,a2,go_sem];rfl
  exact⟨rfl,rfl,_,rfl,rfl⟩
 cases a3:fD n.w1
 ·repeat with_reducible first|refine nz DP ?_|apply ny;simp only[f66,cfW2,cfW,cin,c126,w0,w1,a1,a2,a3,go_sem];rfl
  exact⟨rfl,rfl,_,rfl,rfl⟩
 cases a4:fD n.w2
 ·repeat with_reducible first|refine nz DP ?_|apply ny;simp only[f66,cfW2,cfW,cin,c126,w0,w1,w2,a1,a2,a3,a4,go_sem];rfl
  exact⟨rfl,rfl,_,rfl,rfl⟩
 cases a5:inB l.length 1 10
 ·repeat with_reducible first|refine nz DP ?_|apply ny;simp only[f66,cfW2,cfW,cin,c126,w0,w1,w2,a1,a2,a3,a4,a5,go_sem];rfl
  exact⟨rfl,rfl,_,rfl,rfl⟩
 have b5:=bm.1 a5;have hln:l.length<=1000:=by omega
 repeat with_reducible first|refine nz DP ?_|apply ny;simp only[f66,cfW2,cfW,cin,c126,c127,w0,w1,w2,a1,a2,a3,a4,a5,hdn,hln,hcl,go_sem];rfl
 exact⟨rfl,rfl,_,rfl,rfl⟩
def c66:Tb_
 |[v],sg=>match eS v with
  |some (n,_,l)=>some (.ret (.bool (du n l)),sg)
  |none=>none
 |_,_=>none
theorem c66_ok:al prog 66 c66:=al.of0 (ent func66 rfl) fun args sg r sg' h=>by
 unfold c66 at h;split at h <;> try (cases h;done)
 split at h <;> cases h
 rename_i n z l h1;have hl:=eV h1;obtain⟨rfl,hz⟩:=b8 h1;exact⟨_,rfl,rfl,by rw[af,fi];rfl,Plan_66 n z l hz hl⟩
theorem Has_129(z:Z)(l:List Int)(n:Int)(hz:z=.n->l=[])(hl:l.length<=100000):ab prog 129 [.sl z (l.map ii),ii n] [] (.ret (.bool (decide (n∈l)))) []:=by
 refine ab.of0 hTT func129 rfl rfl ?_;repeat with_reducible first|refine nz aa ?_|apply ny;simp only[f129,go_sem];rfl
 refine am.keep [5,4,0,1] (by simp only[go_sem];rfl) ?_
 refine am.loop (fun i s'=>decide (n∈l)=decide (n∈l.drop i)∧s'=⟨[(5,ii (i:Nat)),(4,.bool false),(0,.sl z (l.map ii)),(1,ii n)],18,[]⟩) l.length ⟨rfl,by first|(simp only[go_sem];first|done|rfl)|rfl⟩ ?_
 rintro i _ hi ⟨hm,rfl⟩;by_cases hlt:i<l.length
 ·obtain⟨x,hx⟩:=gex hlt
  have hx':(l.map ii)[i]?=some (ii x):=aw hx;have hlt':(i:Int)<l.length:=by omega
  have hz':z≠.n:=fun e=>by rw[hz e]at hlt;simp at hlt
  have e4:=wIs i (by omega)
  rw[uR hx]at hm;by_cases hxn:x=n
  ·have hb:(x==n)=true:=by simp[hxn]
   repeat with_reducible first|refine nz aa ?_|apply ny;simp only[f129,hx',hlt',hz',e4,hb,go_sem];rfl
   refine⟨rfl,rfl,_,rfl,?_⟩;rw[hm,Ej hxn];rfl
  ·have hb:(x==n)=false:=by simp[hxn]
   repeat with_reducible first|refine nz aa ?_|apply ny;simp only[f129,hx',hlt',hz',e4,hb,go_sem];rfl
   refine ak.t 0 [5,4,0,1] hlt (by simp only[aF,an,go_sem]) ⟨by rw[hm,Ei hxn];rfl,by first|(simp only[go_sem];first|done|rfl)|rfl⟩
 ·have hlt':¬(i:Int)<l.length:=by omega
  repeat with_reducible first|refine nz aa ?_|apply ny;simp only[f129,hlt',go_sem];rfl
  refine⟨rfl,rfl,_,rfl,?_⟩;rw[hm,Ef (by omega)];rfl
def c129:Tb_
 |[v,.int .i64 n],sg=>match gN v with
  |some c=>if c.length<=100000 then some (.ret (.bool (if 0<=n then decide (n.toNat∈c)else false)),sg)else none
  |none=>none
 |_,_=>none
theorem zE{c:List Nat}{n:Nat}:(n:Int)∈bH c↔n∈c:=by
 unfold bH;rw[Ex];exact⟨fun ⟨x,hx,e⟩=>by rw[←Int.ofNat.inj e];exact hx,fun h=>⟨n,h,rfl⟩⟩
theorem c129_ok:al prog 129 c129:=al.of0 (ent func129 rfl) fun args sg r sg' h=>by
 unfold c129 at h;split at h <;> try (cases h;done)
 split at h <;> try (cases h;done)
 rename_i n _ c h1;split at h <;> cases h
 rename_i hc;obtain⟨z,rfl,hz⟩:=cW h1;have:=Has_129 z (bH c) n (fun e=>by rw[hz e];rfl) (by unfold bH;rw[DX];exact hc)
 rw[←pG]at this;have e:decide (n∈bH c)=(if 0<=n then decide (n.toNat∈c)else false):=by
  split
  ·have h2:((n.toNat:Nat):Int)=n:=by omega
   rw[Fa,←zE,h2]
  ·rw[decide_eq_false_iff_not]
   intro hm;unfold bH at hm;obtain⟨x,_,e⟩:=Ex.1 hm;have:(x:Int)=n:=e
   omega
 rw[e]at this;exact⟨_,rfl,rfl,by rw[af,fB];rfl,this⟩
def cfX:CallF:=aE cf0 129 c129
theorem iT:CallFOk prog cfX:=ah aa c129_ok
theorem AD(n:Nt)(z zs:Z)(l:List Sn)(c:List Nat)(hz:z=.n->l=[])(hzs:zs=.n->c=[])(hl:l.length<=1000)(hc:c.length<=1000):ab prog 68 [.agg (plC n z l),.sl zs (nn c)] [] (.ret (.bool (chB l 0 c))) []:=by
 refine ab.of0 hTT func68 rfl rfl ?_;have hd:=dm hzs;have hc1:=aO c;have hcl:c.length<=100000:=by omega
 have hn1:¬(0:Int) <= -1:=by decide
 repeat with_reducible first|refine nz aa ?_|apply ny;simp only[f68,go_sem];rfl
 refine am.keep [5,2,1] (by simp only[go_sem];rfl) ?_
 refine am.loop (fun i s'=>chB l 0 c=chB (l.drop i) i c∧s'=⟨[(5,ii (i:Nat)),(2,.bp 0 0),(1,.sl zs (nn c))],45,[.var (plC n z l) false]⟩) l.length ⟨rfl,by first|(simp only[go_sem];first|done|rfl)|rfl⟩ ?_
 rintro i _ hi ⟨hm,rfl⟩;by_cases hlt:i<l.length
 ·obtain⟨x,hx⟩:=gex hlt
  have hx':=cU hx;have hlt':(i:Int)<l.length:=by omega
  have hz':z≠.n:=fun e=>by rw[hz e]at hlt;simp at hlt
  have e4:=wIs i (by omega)
  have hi0:(0:Int)<=(i:Int):=by omega
  rw[aP hx,chB]at hm;cases hxl:x.loose
  ·rw[hxl]at hm hx'
   cases hb:decide (i∈c)
   ·have hb2:(i∈c)=False:=eq_false (FM hb)
    repeat with_reducible first|refine nz iT ?_|apply ny;simp only[f68,cfX,c129,hx',hlt',hz',hd,hc1,hcl,hi0,hb2,Ge,go_sem];rfl
    refine⟨rfl,rfl,_,rfl,?_⟩;rw[hm,hb];rfl
   ·have hb2:(i∈c)=True:=FE (Eu hb)
    repeat with_reducible first|refine nz iT ?_|apply ny;simp only[f68,cfX,c129,hx',hlt',hz',hd,hc1,hcl,hi0,hb2,hn1,e4,EO,Ge,go_sem];rfl
    refine ak.t 1 [5,2,1] hlt (by simp only[aK,cb,an,go_sem]) ⟨by rw[hm,hb];rfl,by first|(simp only[go_sem];first|done|rfl)|rfl⟩
  ·rw[hxl]at hm hx'
   cases hb:decide (i∈c)
   ·have hb2:(i∈c)=False:=eq_false (FM hb)
    repeat with_reducible first|refine nz iT ?_|apply ny;simp only[f68,cfX,c129,hx',hlt',hz',hd,hc1,hcl,hi0,hb2,hn1,e4,EO,Ge,go_sem];rfl
    refine ak.t 1 [5,2,1] hlt (by simp only[aK,cb,an,go_sem]) ⟨by rw[hm];rfl,by first|(simp only[go_sem];first|done|rfl)|rfl⟩
   ·have hb2:(i∈c)=True:=FE (Eu hb)
    repeat with_reducible first|refine nz iT ?_|apply ny;simp only[f68,cfX,c129,hx',hlt',hz',hd,hc1,hcl,hi0,hb2,hn1,e4,EO,Ge,go_sem];rfl
    refine ak.t 1 [5,2,1] hlt (by simp only[aK,cb,an,go_sem]) ⟨by rw[hm];rfl,by first|(simp only[go_sem];first|done|rfl)|rfl⟩
 ·have hlt':¬(i:Int)<l.length:=by omega
  obtain rfl:i=l.length:=by omega
  rw[EL]at hm;repeat with_reducible first|refine nz iT ?_|apply ny;simp only[f68,hlt',go_sem];rfl
  refine⟨rfl,rfl,_,rfl,?_⟩;rw[hm];rfl
def c68:Tb_
 |[v,w],sg=>match eS v,gN w with
  |some (_,_,l),some c=>if l.length<=1000∧c.length<=1000 then some (.ret (.bool (chB l 0 c)),sg)else none
  |_,_=>none
 |_,_=>none
theorem c68_ok:al prog 68 c68:=al.of0 (ent func68 rfl) fun args sg r sg' h=>by
 unfold c68 at h;split at h <;> try (cases h;done)
 split at h <;> try (cases h;done)
 rename_i n z l c h1 h2;split at h <;> cases h
 rename_i hc;obtain⟨rfl,hz⟩:=b8 h1;obtain⟨zs,rfl,hzs⟩:=cW h2;exact⟨_,rfl,rfl,by rw[af,af,fi,fB];rfl,AD n z zs l c hz hzs hc.1 hc.2⟩
theorem tV(f:Sn->Int)(l:List Sn)(a b:List Nat):gu f l (a++b)=gu f l a+gu f l b:=by unfold gu;rw[Ec,IT]
theorem vw{f:Sn->Int}{l:List Sn}{n:Nat}{x:Sn}(h:l[n]?=some x):gu f l [n]=f x:=by
 unfold gu;rw[EE,E9,E3,mn h];simp
theorem fit_take{l:List Sn}{c:List Nat}(h:FitC l c)(i:Nat):FitC l (c.take i):=⟨h.sm,fun x hx=>h.rg x (Ey hx),by rw[En];have:=h.ln;omega⟩
theorem long_232(n:Nt)(z zs:Z)(l:List Sn)(c:List Nat)(k:Int)(hz:z=.n->l=[])(hzs:zs=.n->c=[])(hf:FitC l c)(hl:l.length<=11):ab prog 232 [.agg (plC n z l),.sl zs (nn c),ii k,ii 0,ii 10] [] (.ret (.agg [ii (loP l c k),ii (hiP l c k)])) []:=by
 refine ab.ofF hTT func232 rfl rfl ?_;have hrg:=hf.rg;have hln:=hf.ln;repeat with_reducible first|refine nz aa ?_|apply ny;simp only[f232,go_sem];rfl
 refine am.keep [12,11,10,5,1,2,3,4] (by simp only[go_sem];rfl) ?_
 refine am.loop (fun i s'=>s'=⟨[(12,ii (i:Nat)),(11,.bp 2 0),(10,.bp 1 0),(5,.bp 0 0),(1,.sl zs (nn c)),(2,ii k),(3,ii 0),(4,ii 10)],60,[.var (plC n z l) false,.var [ii 0,ii 0] false,.var [ii (loP l (c.take i) k),ii (hiP l (c.take i) k)] false]⟩) c.length (by first|(simp only[go_sem];first|done|rfl)|rfl) ?_
 rintro i _ hi rfl;by_cases hlt:i<c.length
 ·obtain⟨x,hx⟩:=gex hlt
  have hx':=mz hx;have hxl:=hrg x (DU hx);obtain⟨y,hy⟩:=gex hxl;have hy':=cU hy;have hxl':(x:Int)<(l.length:Nat):=by omega
  have hlt':(i:Int)<c.length:=by omega
  have hzs':zs≠.n:=fun e=>by rw[hzs e]at hlt;simp at hlt
  have hz':z≠.n:=fun e=>by have:l=[]:=hz e;rw[this]at hxl;simp at hxl
  have e4:=wIs i (by omega)
  have x0:(0:Int)<=(x:Int):=by omega
  have x10:(x:Int)<=10:=by omega
  have hst:=ofP_at (k:=k) hx hy;have hlo:=sv (fit_take hf i) k;have hys:=hf.sm y (DU hy);by_cases hk:y.part=k
  ·have hkb:(y.part==k)=true:=FR.2 hk
   rw[DZ hk]at hst;have s1:loP l (c.take (i+1)) k=loP l (c.take i) k+y.least:=by unfold loP;rw[hst,tV,vw hy]
   have s2:hiP l (c.take (i+1)) k=hiP l (c.take i) k+y.most:=by unfold hiP;rw[hst,tV,vw hy]
   have e5:IntKind.i64.wrap (loP l (c.take i) k+y.least)=loP l (c.take i) k+y.least:=ai (by omega) (by omega)
   have e6:IntKind.i64.wrap (hiP l (c.take i) k+y.most)=hiP l (c.take i) k+y.most:=ai (by omega) (by omega)
   repeat with_reducible first|refine nz aa ?_|apply ny;simp only[f232,hx',hxl',hy',hlt',hzs',hz',hkb,x0,x10,e4,e5,e6,EO,cz,go_sem];rfl
   refine ak.t 3 [12,11,10,5,1,2,3,4] hlt (by simp only[cb,aK,an,go_sem]) (by rw[s1,s2];first|(simp only[go_sem];first|done|rfl)|rfl)
  ·have hkb:(y.part==k)=false:=EF.2 hk
   rw[D5 hk,Er]at hst;have s1:loP l (c.take (i+1)) k=loP l (c.take i) k:=by unfold loP;rw[hst]
   have s2:hiP l (c.take (i+1)) k=hiP l (c.take i) k:=by unfold hiP;rw[hst]
   repeat with_reducible first|refine nz aa ?_|apply ny;simp only[f232,hx',hxl',hy',hlt',hzs',hz',hkb,e4,cz,go_sem];rfl
   refine ak.t 3 [12,11,10,5,1,2,3,4] hlt (by simp only[cb,aK,an,go_sem]) (by rw[s1,s2];first|(simp only[go_sem];first|done|rfl)|rfl)
 ·have hlt':¬(i:Int)<c.length:=by omega
  obtain rfl:i=c.length:=by omega
  rw[Eg];repeat with_reducible first|refine nz aa ?_|apply ny;simp only[f232,hlt',cz,go_sem];rfl
  exact⟨rfl,rfl,_,rfl,aq rfl⟩
def c232:Tb_
 |[v,w,.int .i64 k,.int .i64 a,.int .i64 b],sg=>match eS v,gN w with
  |some (_,_,l),some c=>if(fitB l c=true∧l.length<=11)∧a=0∧b=10 then some (.ret (.agg [ii (loP l c k),ii (hiP l c k)]),sg)else none
  |_,_=>none
 |_,_=>none
theorem c232_ok:al prog 232 c232:=al.of0 (ent func232 rfl) fun args sg r sg' h=>by
 unfold c232 at h;split at h <;> try (cases h;done)
 split at h <;> try (cases h;done)
 rename_i n z l c h1 h2;split at h <;> cases h
 rename_i hc;obtain⟨hc,rfl,rfl⟩:=hc;obtain⟨rfl,hz⟩:=b8 h1;obtain⟨zs,rfl,hzs⟩:=cW h2;exact⟨_,rfl,rfl,by rw[af,af,fi,fB];rfl,long_232 n z zs l c _ hz hzs (dL.1 hc.1) hc.2⟩
def cfX2:CallF:=aE cf0 232 c232
theorem ke:CallFOk prog cfX2:=ah aa c232_ok
def tW(l:List Sn)(c:List Nat):PV:=.agg [ii (loP l c 0),ii (hiP l c 0),ii (loP l c 1),ii (hiP l c 1),ii (loP l c 2),ii (hiP l c 2)]
theorem Ag(n:Nt)(z zs:Z)(l:List Sn)(c:List Nat)(hz:z=.n->l=[])(hnof:l.map nof=l)(hzs:zs=.n->c=[])(hf:fitB l c=true)(hl:l.length<=11):ab prog 184 [.agg (plC n z l),.sl zs (nn c)] [] (.ret (tW l c)) []:=by
 refine ab.ofF hTT func184 rfl rfl ?_;have hd:=dm hzs;have hdn:=dt (n:=n) hz hnof;have hc1:=aO c;have hc2:=ay l;unfold tW;generalize ha:loP l c 0=a;generalize hb:hiP l c 0=b;generalize hA:loP l c 1=A;generalize hB:hiP l c 1=B;generalize hx:loP l c 2=x;generalize hy:hiP l c 2=y;repeat with_reducible first|refine nz aa ?_|apply ny;simp only[f184,go_sem];rfl
 refine am.keep [6,5,4,2,1] (by simp only[go_sem];rfl) ?_
 obtain⟨ST,hST⟩:∃ST:Int->List PV->St,ST=fun i cs=>⟨[(6,ii i),(5,.bp 2 0),(4,.bp 1 0),(2,.bp 0 0),(1,.sl zs (nn c))],18,[.var (plC n z l) false,.var [ii 0,ii 0,ii 0,ii 0,ii 0,ii 0] false,.var cs false]⟩:=⟨_,rfl⟩
 refine am.loop (fun i s'=>(i=0∧s'=ST 0 [ii 0,ii 0,ii 0,ii 0,ii 0,ii 0])∨(i=1∧s'=ST 1 [ii a,ii b,ii 0,ii 0,ii 0,ii 0])∨(i=2∧s'=ST 2 [ii a,ii b,ii A,ii B,ii 0,ii 0])∨(i=3∧s'=ST 3 [ii a,ii b,ii A,ii B,ii x,ii y])) 3 (.inl ⟨rfl,by rw[hST]⟩) ?_
 rintro i s' hi hI;rcases hI with ⟨rfl,rfl⟩|⟨rfl,rfl⟩|⟨rfl,rfl⟩|⟨rfl,rfl⟩
 ·have hlt:0<3:=by decide
  have v3:IntKind.i64.wrap 1=1:=rfl;subst hST;dsimp only;repeat with_reducible first|refine nz ke ?_|apply ny;simp only[f184,cfX2,c232,hd,hdn,hc1,hc2,hf,hl,ha,hb,v3,go_sem];rfl
  refine ak.t 3 [6,5,4,2,1] hlt (by simp only[cb,aK,an,go_sem]) (.inr (.inl ⟨rfl,by first|(simp only[go_sem];first|done|rfl)|rfl⟩))
 ·have hlt:1<3:=by decide
  have v3:IntKind.i64.wrap 2=2:=rfl;subst hST;dsimp only;repeat with_reducible first|refine nz ke ?_|apply ny;simp only[f184,cfX2,c232,hd,hdn,hc1,hc2,hf,hl,hA,hB,v3,go_sem];rfl
  refine ak.t 3 [6,5,4,2,1] hlt (by simp only[cb,aK,an,go_sem]) (.inr (.inr (.inl ⟨rfl,by first|(simp only[go_sem];first|done|rfl)|rfl⟩)))
 ·have hlt:2<3:=by decide
  have v3:IntKind.i64.wrap 3=3:=rfl;subst hST;dsimp only;repeat with_reducible first|refine nz ke ?_|apply ny;simp only[f184,cfX2,c232,hd,hdn,hc1,hc2,hf,hl,hx,hy,v3,go_sem];rfl
  refine ak.t 3 [6,5,4,2,1] hlt (by simp only[cb,aK,an,go_sem]) (.inr (.inr (.inr ⟨rfl,by first|(simp only[go_sem];first|done|rfl)|rfl⟩)))
 ·subst hST
  dsimp only;repeat with_reducible first|refine nz aa ?_|apply ny;simp only[f184,go_sem];rfl
  exact⟨rfl,rfl,_,rfl,aq rfl⟩
def c184:Tb_
 |[v,w],sg=>match eS v,gN w with
  |some (_,_,l),some c=>if fitB l c=true∧l.length<=11 then some (.ret (tW l c),sg)else none
  |_,_=>none
 |_,_=>none
theorem c184_ok:al prog 184 c184:=al.of0 (ent func184 rfl) fun args sg r sg' h=>by
 unfold c184 at h;split at h <;> try (cases h;done)
 split at h <;> try (cases h;done)
 rename_i n z l c h1 h2;split at h <;> cases h
 rename_i hc;have hl:=eV h1;obtain⟨rfl,hz⟩:=b8 h1;obtain⟨zs,rfl,hzs⟩:=cW h2;exact⟨_,rfl,rfl,by rw[af,af,fi,fB];rfl,Ag n z zs l c hz hl hzs hc.1 hc.2⟩
theorem vH(x:Int)(w:Int×Int):ab prog 233 [ii x,.agg [ii w.1,ii w.2]] [] (.ret (.bool (inB x w.1 w.2))) []:=by
 refine ab.of0 hTT func233 rfl rfl ?_;repeat with_reducible first|refine nz bS ?_|apply ny;simp only[f233,cfW,cin,go_sem];rfl
 exact⟨rfl,rfl,_,rfl,rfl⟩
def c233:Tb_
 |[.int .i64 x,.agg [.int .i64 a,.int .i64 b]],sg=>some (.ret (.bool (inB x a b)),sg)
 |_,_=>none
theorem c233_ok:al prog 233 c233:=al.of0 (ent func233 rfl) fun args sg r sg' h=>by
 unfold c233 at h;split at h <;> cases h
 exact⟨_,rfl,rfl,rfl,vH _ (_,_)⟩
end Go.Pv
