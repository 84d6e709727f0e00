import Derived.Test.YtkjalecddameoaaGreatDoorQmFits
import Derived.Test.YtkjalecddameoaaGreatDoorQmTak
import Derived.Test.YtkjalecddameoaaGreatDoorQmEve
set_option linter.all false
open Go.Proofs.Tryz
namespace Go.Pv
open Go Go.RowKit Go.Proofs
set_option maxRecDepth 200000
set_option maxHeartbeats 8000000
theorem IZ{k:Nat}{l:List Int}(h:CV k (-1) l=true):∃c:List Nat,l=bH c∧c.Pairwise (·<·)∧∀i∈c,i<k:=by
 refine⟨l.map Int.toNat,?_,C6 h,fun i hi=>?_⟩
 ·have key:∀l:List Int,(∀x∈l,0<=x)->l=bH (l.map Int.toNat):=by
   intro l;induction l with
   |nil=>exact fun _=>rfl
   |cons x l ih =>
    intro h;show x::l=((x.toNat:Nat):Int)::bH (l.map Int.toNat);rw[Int.toNat_of_nonneg (h x DV),←ih fun y hy=>h y (DW _ hy)]
  exact key l fun x hx=>(CQ h x hx).2.1
 ·obtain⟨x,hx,rfl⟩:=Ex.1 hi
  have:=CQ h x hx
  omega
theorem JM{k:Nat}:∀{c:List Nat} {p:Int},c.Pairwise (·<·)->(∀i∈c,i<k)->(∀i∈c,p<(i:Int))->CV k p (bH c)=true
 |[],_,_,_,_=>rfl
 |i::c,p,h1,h2,h3=>by
  rw[FL]at h1;have hi:=h2 i DV
  show(inB (i:Int) 0 ((k:Int)-1)&&decide (p<(i:Int))&&CV k (i:Int) (bH c))=true
  rw[D3,D3];exact⟨⟨bm.2 ⟨by omega,by omega⟩,Ej (h3 i DV)⟩,JM h1.2 (fun j hj=>h2 j (DW _ hj)) fun j hj=>Int.ofNat_lt.2 (h1.1 j hj)⟩
theorem Jq(s:Sty)(hok:s.ok=true)(zc:Z)(c:List Int)(hzc:zc=.n->c=[])(hl:s.rz.length<=1000)(hcl:c.length<=1000):ab prog 54 [.agg s.cells,.sl zc (c.map ii)] [] (.ret (.bool (CV s.rz.length (-1) c))) []:=by
 refine ab.of0 hTT func54 rfl rfl ?_;have hc1:=ap s.sc;have hc2:=ao s.rz;have hcc:=ac c;have hgt:∀a b:Int,(a>b)=(b<a):=fun _ _=>rfl
 have e0:IntKind.i64.wrap ((s.rz.length:Int)-1)=(s.rz.length:Int)-1:=ai (by omega) (by omega)
 repeat with_reducible first|refine nz aa ?_|apply ny;simp only[f54,go_sem];rfl
 refine am.keep [5,4,2,1] (by simp only[go_sem];rfl) ?_
 refine am.loop (fun i s'=>CV s.rz.length (-1) c=CV s.rz.length (DE c i) (c.drop i)∧s'=⟨[(5,ii (i:Int)),(4,.bool false),(2,.bp 0 0),(1,.sl zc (c.map ii))],38,[.var s.cells false]⟩) c.length ⟨rfl,by first|(simp only[go_sem];first|done|rfl)|rfl⟩ ?_
 rintro i _ hi ⟨hm,rfl⟩;by_cases hlt:i<c.length
 ·obtain⟨x,hx⟩:=gex hlt
  have hx':(c.map ii)[i]?=some (ii x):=aw hx;have hlt':(i:Int)<c.length:=by omega
  have hz':zc≠.n:=fun e=>by rw[hzc e]at hlt;simp at hlt
  have e4:=wIs i (by omega)
  rw[Dy hx]at hm;cases hin:inB x 0 ((s.rz.length:Int)-1)with
  |false =>
   rw[hin]at hm;have hm:CV s.rz.length (-1) c=false:=by rw[hm];rfl
   rw[hm];repeat with_reducible first|refine nz (ah aa JK) ?_|apply ny;simp only[f54,aE,cin,hin,hx',hlt',hz',e0,hc1,hc2,go_sem];rfl
   exact⟨rfl,rfl,_,rfl,rfl⟩
  |true =>
   rw[hin,EJ]at hm;have hx0:=(bm.1 hin).1;by_cases hi0:i=0
   ·have hd:decide (DE c i<x)=true:=Ej (by rw[hi0];show(-1:Int)<x;omega)
    rw[hd,EJ]at hm;have h00:¬(0:Int)<(i:Int):=by omega
    repeat with_reducible first|refine nz (ah aa JK) ?_|apply ny;simp only[f54,aE,cin,hin,hx',hlt',hz',e0,e4,h00,hgt,hc1,hc2,go_sem];rfl
    refine ak.t 1 [5,4,2,1] hlt (by simp only[aA,az,aF,an,go_sem]) ⟨hm,by first|(simp only[go_sem];first|done|rfl)|rfl⟩
   ·obtain⟨k,hk⟩:∃k,i=k+1:=⟨i-1,by omega⟩
    obtain⟨y,hy⟩:∃y,c[k]?=some y:=⟨_,DT (by omega)⟩
    have hy':(c.map ii)[k]?=some (ii y):=aw hy;have hpv:DE c i=y:=by rw[hk];exact CY hy
    rw[hpv]at hm;have h00:(0:Int)<(i:Int):=by omega
    have e5:IntKind.i64.wrap ((i:Int)-1)=(k:Int):=(ai (by omega) (by omega)).trans (by omega)
    have hkl:(k:Int)<c.length:=by omega
    by_cases hxy:y<x
    ·rw[Ej hxy,EJ]at hm
     have hxy':¬x<=y:=by omega
     repeat with_reducible first|refine nz (ah aa JK) ?_|apply ny;simp only[f54,aE,cin,hin,hx',hy',hxy',hlt',hkl,hz',e0,e4,e5,h00,hgt,hc1,hc2,go_sem];rfl
     refine ak.t 1 [5,4,2,1] hlt (by simp only[aA,az,aF,an,go_sem]) ⟨hm,by first|(simp only[go_sem];first|done|rfl)|rfl⟩
    ·rw[Ei hxy,Gj]at hm
     have hxy':x<=y:=by omega
     rw[hm];repeat with_reducible first|refine nz (ah aa JK) ?_|apply ny;simp only[f54,aE,cin,hin,hx',hy',hxy',hlt',hkl,hz',e0,e5,h00,hgt,hc1,hc2,go_sem];rfl
     exact⟨rfl,rfl,_,rfl,rfl⟩
 ·have hlt':¬(i:Int)<c.length:=by omega
  have hm:CV s.rz.length (-1) c=true:=by rw[hm,Ef (by omega)];rfl
  rw[hm];repeat with_reducible first|refine nz aa ?_|apply ny;simp only[f54,hlt',go_sem];rfl
  exact⟨rfl,rfl,_,rfl,rfl⟩
def JH(rz:List Rz)(c:List Nat):List Rz:=c.filterMap fun i=>rz[i]?
def Sty.kept(s:Sty)(c:List Nat):Sty:=⟨s.e,s.zs,s.sc,if decide (c.length=0)=true then .n else .a,JH s.rz c⟩
theorem Jj{rz:List Rz}{c:List Nat}{i j:Nat}{q:Rz}(h:c[i]?=some j)(hq:rz[j]?=some q):JH rz (c.take (i+1))=JH rz (c.take i)++[q]:=by
 unfold JH;rw[Ev,h,Gf]
 congr 1
 show[j].filterMap _=_
 rw[F0,hq];rfl
theorem JJ{rz:List Rz}:∀{c:List Nat},(∀i∈c,i<rz.length)->(JH rz c).length=c.length
 |[],_=>rfl
 |i::c,h=>by
  obtain⟨q,hq⟩:∃q,rz[i]?=some q:=⟨_,DT (h i DV)⟩;unfold JH;rw[F0,hq,Ek,Ek];have:=JJ (c:=c) fun j hj=>h j (DW _ hj)
  unfold JH at this;rw[this]
theorem Ju{rz:List Rz}{c:List Nat}:∀q∈JH rz c,q∈rz:=fun q hq=>by
 obtain⟨i,_,h⟩:=GY.1 hq;exact DU h
theorem Jn(s:Sty)(c:List Nat):(s.kept c).rl=JD s.rl c:=by
 show(JH s.rz c).map (·.2)=JD (s.rz.map (·.2)) c
 unfold JH JD;rw[List.map_filterMap]
 congr 1
 funext i
 rw[Eh]
theorem kept_ok{s:Sty}(h:s.ok=true){c:List Nat}(hc:∀i∈c,i<s.rz.length):(s.kept c).ok=true:=by
 have h1:=Sty.ok_s h;have h3:=Sty.ok_z h;unfold Sty.ok;rw[D3,D3];refine⟨⟨h1,qy fun e=>?_⟩,?_⟩
 ·have e:(if decide (c.length=0)=true then Z.n else Z.a)=.n:=e
  split at e
  ·rename_i hl
   have:=JJ hc
   rw[Eu hl]at this;exact Ew.1 this
  ·cases e
 ·unfold rzB at h3 ⊢
  rw[D7]at h3 ⊢;exact fun q hq=>h3 q (Ju q hq)
theorem Jt{sg:List Box}{id:Nat}{z:Bool}{e:TypeId}{k:Nat}{es:List PV}{frz:Bool}(h:sg[id]?=some (.row z e k es frz))(hc:ad es=true){m:Nat}(hm:m=es.length){c d:PV}(hcc:c.closed=true)(hd:d.closed=true):bR 0 (.agg [c,d,.ms id m]) sg=(.agg [c,d,.sl (if z then .n else .a) es],[]) :=
 A6 (by rw[tY (n:=7) (by simp[ad,PV.closed])];simp only[cO,aZ (n:=6) hcc,aZ (n:=6) hd,frzX_row (n:=5) h hc hm]) (by simp[PV.closed,ad,hc,hcc,hd])
theorem Kept_115(s:Sty)(hok:s.ok=true)(z:Z)(c:List Nat)(hz:zOk z ((bH c).map ii)=true)(hc:∀i∈c,i<s.rz.length)(hl:c.length<=1000)(hr:s.rz.length<=1000):ab prog 115 [.agg s.cells,.sl z ((bH c).map ii)] [] (.ret (.agg (s.kept c).cells)) []:=by
 refine ab.ofF hTT func115 rfl rfl ?_;have hc1:=ap s.sc;have hc2:=ao s.rz;have hcl:=ac (bH c);have hcn:(bH c).length=c.length:=DX ..;have hzr:=Sty.ok_r hok;have hkl:=JJ hc;repeat with_reducible first|(fail_if_success refine am.seq (x:=.region 3 _ _) ?_);(fail_if_success show am _ (.region 3 _ _) _ _);refine nz aa ?_|apply ny;simp only[f115,hc1,hc2,hcl,go_sem];rfl
 refine am.keep [5,4,2,1] (by simp only[go_sem];rfl) ?_
 refine am.nilBox (sg':=[.var s.cells false,.var [ii 0,.sl .n [],.sl .n []] false,.var [ii s.e,.sl s.zs (s.sc.map bF),.ms 3 0] false,.row true 80 2 [] false]) 2 2 80 2 rfl rfl rfl ?_;repeat with_reducible first|refine nz aa ?_|apply ny;simp only[f115,go_sem];rfl
 refine am.keep [6,5,4,2,1] (by simp only[go_sem];rfl) ?_
 refine am.loop (fun i s'=>s'=⟨[(6,ii (i:Int)),(5,.bp 2 0),(4,.bp 1 0),(2,.bp 0 0),(1,.sl z ((bH c).map ii))],29,[.var s.cells false,.var [ii 0,.sl .n [],.sl .n []] false,.var [ii s.e,.sl s.zs (s.sc.map bF),.ms 3 (JH s.rz (c.take i)).length] false,.row (decide ((JH s.rz (c.take i)).length=0)) 80 2 ((JH s.rz (c.take i)).map aT) false]⟩) c.length (by first|(simp only[go_sem];first|done|rfl)|rfl) ?_
 rintro i _ hi rfl;by_cases hlt:i<c.length
 ·obtain⟨j,hj⟩:=gex hlt
  have hji:(bH c)[i]?=some (j:Int):=aw hj;have hj':((bH c).map ii)[i]?=some (ii (j:Int)):=aw hji;have hjl:=hc j (DU hj);obtain⟨q,hq⟩:=gex hjl;have hq':(s.rz.map aT)[j]?=some (.agg [ii q.2.frm,.sl q.1 (q.2.to.map ii)]):=aw hq;have hlt':(i:Int)<c.length:=by omega
  have hjl':(j:Int)<s.rz.length:=by omega
  have hz':z≠.n:=fun e=>by
   have:=bd hz e
   rw[this]at hcn;simp at hcn;omega
  have hzr':s.zr≠.n:=fun e=>by rw[bd hzr e]at hjl;simp at hjl
  have e4:=wIs i (by omega)
  have hst:=Jj hj hq;have hUl:(JH s.rz (c.take i)).length<=1000:=by
   rw[JJ fun x hx=>hc x (Ey hx),En];omega
  have hcq:=ac q.2.to;generalize JH s.rz (c.take i)=U at hst hUl ⊢;have l1:U.length+1<=maxLen:=by unfold maxLen;omega
  have l2:(U.length+1)*32<=140737488355328:=by omega
  have hd1:decide (U.length+1=0)=false:=by simp
  have hqv:aT q=.agg [ii q.2.frm,.sl q.1 (q.2.to.map ii)]:=rfl;repeat with_reducible first|refine nz aa ?_|apply ny;simp only[f115,hj',hq',hlt',hjl',hz',hzr',hcn,hcq,e4,l1,l2,go_sem];rfl
  refine ak.t 4 [6,5,4,2,1] hlt (by simp only[aA,az,aF,an,bJ,go_sem]) (by rw[hst,Ec,Ea];first|(simp only[hd1,hqv,go_sem];first|done|rfl)|rfl)
 ·obtain rfl:i=c.length:=by omega
  have hlt':¬(c.length:Int)<c.length:=by omega
  rw[Eg,hkl];repeat with_reducible first|refine nz aa ?_|apply ny;simp only[f115,hlt',hcn,go_sem];rfl
  exact⟨rfl,rfl,_,rfl,Jt (id:=3) (z:=decide (c.length=0)) rfl (ao _) (by rw[DX];exact hkl.symm) rfl hc1⟩
theorem Jp{e:Int}{sc:List Sn}{rl:List Rl}(h:StoryOk e sc rl):∀d∈fU e sc rl,d.1≠[]:=fun d hd h0=>by
 obtain⟨rs,p⟩:=d;obtain rfl:rs=[]:=h0;have h1:=(yj h [] p).1 hd;have he:=h.e1;have hf:bN e [0]=some 0:=by rw[bN,DZ (by omega)]
 simp[fW,hf]at h1
theorem cov_nil{e:Int}{sc:List Sn}{rl:List Rl}(h:StoryOk e sc rl)(L:List (List Int)):JL (H6 (fU e sc rl) L) []=false:=by
 rw[←JA,Hy]
 rintro⟨rs,hrs,hall⟩
 obtain⟨d,hd,rfl⟩:=Ex.1 hrs;have hne:=Jp h d (Gd.1 hd).1;cases hd1:d.1 with
 |nil=>exact hne hd1
 |cons i r=>rw[hd1]at hall;exact absurd (hall i DV) (by simp)
theorem Jo{e:Int}{sc:List Sn}{rl:List Rl}(hO:StoryOk e sc rl){n:Nt}{rs:List Nat}:rs∈H6 (fU e sc rl) (jf n sc (aX e sc rl))↔∃d∈fU e sc rl,cX n sc d.2=4∧d.1=rs:=by
 unfold H6;rw[Ex];constructor
 ·rintro⟨d,hd,rfl⟩
  obtain⟨h1,h2⟩:=Gd.1 hd;obtain⟨q,hq,he⟩:=Jz.1 h2;obtain rfl:=Eu he;exact⟨d,h1,(Aa.1 hq).2,rfl⟩
 ·rintro⟨d,hd,hv,rfl⟩
  exact⟨d,Gd.2 ⟨hd,Jz.2 ⟨d.2,Aa.2 ⟨hO.play_in.2 ⟨d,hd,rfl⟩,hv⟩,Ej rfl⟩⟩,rfl⟩
theorem cov_kept{e:Int}{sc:List Sn}{rl:List Rl}(h:StoryOk e sc rl)(n:Nt){c:List Nat}(hp:c.Pairwise (·<·))(hl:∀i∈c,i<rl.length)(hn:c≠[]):
 jf n sc (aX e sc (JD rl c))≠[]↔JL (H6 (fU e sc rl) (jf n sc (aX e sc rl))) c=true:=by
 rw[Hy];constructor
 ·intro hf
  obtain⟨p,hp1⟩:=JY _ hf;obtain⟨h1,h2⟩:=Aa.1 hp1;obtain⟨d,hd,rfl,hall⟩:=(I8 h hp hl hn p).1 h1;exact⟨d.1,(Jo h).2 ⟨d,hd,h2,rfl⟩,hall⟩
 ·rintro⟨rs,hrs,hall⟩
  obtain⟨d,hd,hv,rfl⟩:=(Jo h).1 hrs;have h1:=(I8 h hp hl hn d.2).2 ⟨d,hd,rfl,hall⟩;exact List.ne_nil_of_mem (Aa.2 ⟨h1,hv⟩)
def Jr:Tb_
 |[v,w],sg=>match cS v,aN w with
  |some s,some l=>if CV s.rz.length (-1) l=true∧l.length<=1000∧s.rz.length<=1000 then some (.ret (.agg (s.kept (l.map Int.toNat)).cells),sg)else none
  |_,_=>none
 |_,_=>none
theorem c115_ok:al prog 115 Jr:=al.of0 (ent func115 rfl) fun args sg r sg' h=>by
 unfold Jr at h;split at h <;> try (cases h;done)
 split at h <;> try (cases h;done)
 rename_i s l h1 h2;split at h <;> cases h
 rename_i hc;obtain⟨rfl,hok⟩:=aM h1;obtain⟨z,rfl,hz⟩:=aJ h2;obtain⟨c,rfl,hc1,hc2⟩:=IZ hc.1;have e:(bH c).map Int.toNat=c:=by
  unfold bH;rw[Fb];exact List.map_id'' (fun i=>rfl) c
 rw[e];exact⟨_,rfl,rfl,by rw[af,af,cm,bt];rfl,Kept_115 s hok z c (qy hz) hc2 (by have:=hc.2.1;unfold bH at this;rwa [DX]at this) hc.2.2⟩
def cfZe:CallF:=aE (aE cf0 115 Jr) 62 c62
theorem Js:CallFOk prog cfZe:=ah (ah aa c115_ok) c62_ok
theorem JI(c:List Nat):(bH c).map Int.toNat=c:=by
 unfold bH;rw[Fb];exact List.map_id'' (fun i=>rfl) c
theorem Jm{s:Sty}(hst:s.story=true){c:List Nat}(hp:c.Pairwise (·<·))(hl:∀i∈c,i<s.rz.length)(hn:c≠[]):(s.kept c).story=true:=by
 have hO:=Sty.story_ok hst;have hl':∀i∈c,i<s.rl.length:=fun i hi=>by rw[s.rl_len];exact hl i hi
 have h1:StoryOk s.e s.sc (JD s.rl c):=I5 hO (by have:=I4 (k:=0) hp (fun i hi=>⟨Ee _,hl' i hi⟩);rwa [GS]at this) (fun e=>hn (Ew.1 (by rw[←I3 hl',e];rfl)))
 have h2:StoryOk (s.kept c).e (s.kept c).sc (s.kept c).rl:=by rw[Jn];exact h1
 exact fH.2 h2
theorem lfits_55(s:Sty)(hok:s.ok=true)(hst:s.story=true)(n:Nt)(he:evB n=true)(z:Z)(c:List Nat)(hz:zOk z ((bH c).map ii)=true)(hp:c.Pairwise (·<·))(hl:∀i∈c,i<s.rz.length):
 ab prog 55 [.agg s.cells,.agg (ntC n),.sl z ((bH c).map ii)] [] (.ret (.tuple [.bool (JL (Jg s n) c),.bool true])) []:=by
 refine ab.ofF hTT func55 rfl rfl ?_;have hO:=Sty.story_ok hst;have hc1:=ap s.sc;have hc2:=ao s.rz;have hcl:=ac (bH c);have hcn:(bH c).length=c.length:=DX ..;have hdn:gJ (.agg (ntC n))=some n:=fF n;by_cases h0:c=[]
 ·have hb:JL (Jg s n) c=false:=by rw[h0];exact cov_nil hO _
  have hl0:((((bH c).length:Nat):Int)==0)=true:=by rw[h0];rfl
  rw[hb];repeat with_reducible first|refine nz aa ?_|apply ny;simp only[f55,hl0,hc1,hc2,hcl,go_sem];rfl
  exact⟨rfl,rfl,_,rfl,aq rfl⟩
 ·have hk10:=hO.r10
  have hrl:=s.rl_len;have hcl2:c.length<=s.rz.length:=jG (i:=0) hp fun x hx=>⟨Ee _,hl x hx⟩
  have hl0:((((bH c).length:Nat):Int)==0)=false:=by
   rw[EF,hcn];have:c.length≠0:=fun e=>h0 (Ew.1 e)
   omega
  have hst2:=Jm hst hp hl h0;have hok2:=kept_ok hok hl;have hcov:=cov_kept hO n (c:=c) hp (fun i hi=>by rw[hrl];exact hl i hi) h0
  have hds:=aS s hok;have hdc:aN (.sl z ((bH c).map ii))=some (bH c):=aI hz;have hri:CV s.rz.length (-1) (bH c)=true:=JM hp hl fun i _=>by omega
  have hrn:(bH c).map Int.toNat=c:=JI c;have q1:(bH c).length<=1000:=by omega
  have q2:s.rz.length<=1000:=by omega
  have hec:=CJ hok2 hst2 he;have hK:jf n (s.kept c).sc (aX (s.kept c).e (s.kept c).sc (s.kept c).rl)=jf n s.sc (aX s.e s.sc (JD s.rl c)):=by rw[Jn];rfl
  rw[hK]at hec;have hdK:=aS (s.kept c) hok2;have hcK:=kM (s.kept c);have hvK:(s.kept c).cells=[ii (s.kept c).e,.sl (s.kept c).zs ((s.kept c).sc.map bF),.sl (s.kept c).zr ((s.kept c).rz.map aT)]:=rfl;have hk1:=ap (s.kept c).sc;have hk2:=ao (s.kept c).rz;have hvw:∀sg,dh sg (.agg (s.kept c).cells)=some (.agg (s.kept c).cells):=fun sg=>rfl
  have n50:((5:Int)==0)=false:=rfl;have n00:((0:Int)==0)=true:=rfl;have n55:((5:Int)==5)=true:=rfl;rcases hec with ⟨hF,hV⟩|⟨p,r,C1,C2,hF,_,_,_,_,hV⟩
  ·have hb:JL (Jg s n) c=false:=by
    rw[←JA];exact fun h=>hcov.2 h hF
   rw[hb];repeat with_reducible first|refine nz Js ?_|apply ny;simp only[f55,cfZe,Jr,c62,hl0,hds,hdc,hri,hrn,q1,q2,hdK,hcK,hdn,hV,n50,n00,n55,hc1,hc2,hcl,hk1,hk2,go_sem];rfl
   exact⟨rfl,rfl,_,rfl,aq rfl⟩
  ·have hb:JL (Jg s n) c=true:=hcov.1 (by rw[hF];simp)
   rw[hb];have hcp:=ac p;have hsC:∃zc ec,slC C1=.sl zc ec∧ad ec=true:=⟨_,_,rfl,aO C1⟩;obtain⟨zc,ec,hsc,hec2⟩:=hsC;have hsp:slx p=.sl .a (p.map ii):=rfl;have hlc:=ac (re n C1 (scn s.sc p) C1);rw[hsp,hsc]at hV;repeat with_reducible first|refine nz Js ?_|apply ny;simp only[f55,cfZe,Jr,c62,hl0,hds,hdc,hri,hrn,q1,q2,hdK,hcK,hdn,hV,n50,n00,n55,hc1,hc2,hcl,hk1,hk2,hcp,hec2,go_sem];rfl
   exact⟨rfl,rfl,_,rfl,aq rfl⟩
end Go.Pv
