import Derived.Test.YtkjalecddameoaaGreatDoorQmKep
import Derived.Test.YtkjalecddameoaaGreatDoorQjPlays
set_option linter.all false
open Go.Proofs.Tryz
namespace Go.Pv
open Go Go.RowKit Go.Proofs
set_option maxRecDepth 200000
set_option maxHeartbeats 8000000
theorem best_cov{k:Nat}{G:List (List Nat)}(hG:∀rs∈G,∀i∈rs,i<k){x:List Nat}(hx:(HZ k).find? (JL G)=some x):JL G x=true∧x.Pairwise (·<·)∧(∀i∈x,i<k)∧∀c:List Nat,c.Pairwise (·<·)->(∀i∈c,i<k)->JL G c=true->Hg c x=false:=by
 have h1:=List.find?_some hx;have h2:=Hz.1 (Jy hx);refine⟨h1,h2.1,h2.2,fun c hc hl hcov=>?_⟩
 have hcm:c∈HZ k:=Hz.2 ⟨hc,hl⟩;obtain⟨ls,bs,hab,has⟩:=(List.find?_eq_some_iff_append.1 hx).2;have hs:=HP k;rw[hab]at hcm hs;rw[IM]at hs;rcases Ez.1 hcm with h|h
 ·have:=has c h
  rw[hcov]at this;cases this
 ·rcases D6.1 h with rfl|h
  ·exact HA c
  ·have h3:=(FL.1 hs.2.1).1 c h
   cases hb:Hg c x with
   |false=>rfl
   |true=>rw[←HA x];exact(Hx h3 hb).symm
theorem Je{k:Nat}{G:List (List Nat)}{r:Nat}:r∈JF k G↔r<k∧∀rs∈G,r∈rs:=by
 unfold JF;rw[Gd,FJ,D7];simp only[Eo]
theorem Jb{k:Nat}{G:List (List Nat)}{r:Nat}(hr:r∈JF k G){c:List Nat}(hc:JL G c=true):r∈c:=by
 obtain⟨rs,h1,h2⟩:=Hy.1 hc;exact h2 r ((Je.1 hr).2 rs h1)
def butR(k r:Nat):List Nat:=(List.range k).filter fun j=>decide (j≠r)
theorem Jv(k r:Nat):(butR k r).Pairwise (·<·):=List.Pairwise.filter _ Jw
theorem butR_lt(k r:Nat):∀i∈butR k r,i<k:=fun i hi=>FJ.1 (Gd.1 hi).1
theorem butI_nat(k r:Nat):Ik k r=bH (butR k r):=rfl
theorem loss_but{k:Nat}{G:List (List Nat)}(hG:∀rs∈G,∀i∈rs,i<k){r:Nat}(hr:r<k):decide (r∈JF k G)=!JL G (butR k r):=by
 rw[JU k hG];rw[FD,Eo,Gd,FJ];exact⟨fun h=>h.2,fun h=>⟨hr,h⟩⟩
theorem losI_nat{s:Sty}{n:Nt}(hst:s.story=true):HO s.rl.length (Hv s n)=bH (JF s.rl.length (Jg s n)):=by
 have hr:=G8 (Sty.story_ok hst);have hk:∀d∈fU s.e s.sc s.rl,∀i∈d.1,i<s.rl.length:=fun d hd=>(hr d hd).2
 unfold HO
 congr 1
 unfold JF;refine IQ fun r _=>?_
 rw[JX hk r,Bool.not_not]
theorem Jk(k:Nat)(G:List (List Nat)):(JF k G).Pairwise (·<·):=List.Pairwise.filter _ Jw
theorem lossR_lt{k:Nat}{G:List (List Nat)}:∀i∈JF k G,i<k:=fun i hi=>(Je.1 hi).1
def c42:Tb_
 |[v,.int .i64 x],sg=>match aN v with
  |some l=>if l.length<=1000 then some (.ret (.bool (decide (x∈l))),sg)else none
  |none=>none
 |_,_=>none
theorem c42_ok:al prog 42 c42:=al.of0 (ent func42 rfl) fun args sg r sg' h=>by
 unfold c42 at h;split at h <;> try (cases h;done)
 split at h <;> try (cases h;done)
 rename_i l h1;split at h <;> cases h
 rename_i hc;obtain⟨z,rfl,hz⟩:=aJ h1;exact⟨_,rfl,rfl,by rw[af,bt];rfl,has_42 z l _ hz (by omega)⟩
def c54:Tb_
 |[v,w],sg=>match cS v,aN w with
  |some s,some l=>if s.rz.length<=1000∧l.length<=1000 then some (.ret (.bool (CV s.rz.length (-1) l)),sg)else none
  |_,_=>none
 |_,_=>none
theorem c54_ok:al prog 54 c54:=al.of0 (ent func54 rfl) fun args sg r sg' h=>by
 unfold c54 at h;split at h <;> try (cases h;done)
 split at h <;> try (cases h;done)
 rename_i s l h1 h2;split at h <;> cases h
 rename_i hc;obtain⟨rfl,hok⟩:=aM h1;obtain⟨z,rfl,hz⟩:=aJ h2;exact⟨_,rfl,rfl,by rw[af,af,cm,bt];rfl,Jq s hok z l hz hc.1 hc.2⟩
def c55:Tb_
 |[v,w,u],sg=>match cS v,gJ w,aN u with
  |some s,some n,some l=>if s.story=true∧evB n=true∧CV s.rz.length (-1) l=true then some (.ret (.tuple [.bool (JL (Jg s n) (l.map Int.toNat)),.bool true]),sg)else none
  |_,_,_=>none
 |_,_=>none
theorem c55_ok:al prog 55 c55:=al.of0 (ent func55 rfl) fun args sg r sg' h=>by
 unfold c55 at h;split at h <;> try (cases h;done)
 split at h <;> try (cases h;done)
 rename_i s n l h1 h2 h3;split at h <;> cases h
 rename_i hc;obtain⟨rfl,hok⟩:=aM h1;obtain rfl:=dz h2;obtain⟨z,rfl,hz⟩:=aJ h3;obtain⟨c,rfl,hc1,hc2⟩:=IZ hc.2.2;rw[JI];exact⟨_,rfl,rfl,by rw[af,af,af,cm,bt];rfl,lfits_55 s hok hc.1 n hc.2.1 z c (qy hz) hc1 hc2⟩
def JG:CallF:=aE (aE (aE (aE (aE (aE (aE C9 46 c46) 50 c50) 51 c51) 55 c55) 54 c54) 42 c42) 28 c28
theorem JC(hk:al prog 21 c21):CallFOk prog JG:=ah (ah (ah (ah (ah (ah (ah (JV hk) c46_ok) c50_ok) c51_ok) c55_ok) c54_ok) c42_ok) c28_ok
theorem both_51{s:Sty}{n:Nt}(hst:s.story=true)(he:evB n=true):∃(l1 l2:List Nat) (z1 z2:Z) (e:Int),Hj s n=.tuple [.sl z1 ((bH l1).map ii),ii e]∧Id s n=.tuple [.sl z2 ((bH l2).map ii),ii e]∧zOk z1 ((bH l1).map ii)=true∧zOk z2 ((bH l2).map ii)=true∧l1.length<=10∧l2.length<=10 ∧
 ((e=5∧Jg s n=[])∨(e=0∧(HZ s.rz.length).find? (JL (Jg s n))=some l1∧l2=JF s.rz.length (Jg s n))):=by
 have hO:=Sty.story_ok hst;have hse:(s.story&&evB n)=true:=by rw[hst,he];rfl
 have hk10:s.rz.length<=10:=by have:=hO.r10;have:=s.rl_len;omega
 have hNV:Hj s n=(match Hv s n with
  |[]=>.tuple [.sl .n [],ii 5]
  |o::l=>.tuple [slx (Hc o l),ii 0]):=by unfold Hj;rw[hse,DZ rfl];cases Hv s n <;> rfl
 have hLV:Id s n=(match Hv s n with
  |[]=>.tuple [.sl .n [],ii 5]
  |o::l=>.tuple [isV (HO s.rl.length (o::l)),ii 0]):=by unfold Id;rw[hse,DZ rfl];cases Hv s n <;> rfl
 have hln:=losI_nat (n:=n) hst;cases hT:Hv s n with
 |nil =>
  rw[hT]at hNV hLV;exact⟨[],[],.n,.n,5,hNV,hLV,rfl,rfl,Ee _,Ee _,.inl ⟨rfl,take_nil.1 hT⟩⟩
 |cons o l =>
  obtain⟨x,hx1,hx2,hx3⟩:=J0 (n:=n) hst hT;rw[hT]at hNV hLV hln;have hNV:Hj s n=.tuple [slx (Hc o l),ii 0]:=hNV;have hLV:Id s n=.tuple [isV (HO s.rl.length (o::l)),ii 0]:=hLV;rw[hx2]at hNV;rw[hln]at hLV;rw[s.rl_len]at hLV;refine⟨x,JF s.rz.length (Jg s n),.a,_,0,hNV,hLV,rfl,qy fun e=>?_,hx3,?_,.inr ⟨rfl,hx1,rfl⟩⟩
  ·split at e
   ·rename_i h;exact Ew.1 h
   ·cases e
  ·unfold JF
   refine Em (Fh ..) ?_;rw[JZ];exact hk10
theorem Jh(hk:al prog 21 c21)(s:Sty)(hok:s.ok=true)(n:Nt)(z:Z)(o:List Int)(hz:zOk z (o.map ii)=true)(gone:Int):ab prog 10 [.agg s.cells,.agg (ntC n),.sl z (o.map ii),ii gone] [] (.ret (.bool true)) []:=by
 refine ab.of0 hTT func10 rfl rfl ?_;have hd:=aS s hok;have hdn:gJ (.agg (ntC n))=some n:=fF n;have h1:=ap s.sc;have h2:=ao s.rz;have hdo:aN (.sl z (o.map ii))=some o:=aI hz;have hco:=ac o;have n00:((0:Int) != 0)=false:=rfl;have n50:((5:Int) != 0)=true:=rfl;have n55:((5:Int) != 5)=false:=rfl;cases h0:ub s
 ·repeat with_reducible first|refine nz (JC hk) ?_|apply ny;simp only[f10,JG,C9,C7,C8,c19,c21,hd,h0,h1,h2,go_sem];rfl
  exact⟨rfl,rfl,_,rfl,rfl⟩
 cases hst:s.story
 ·repeat with_reducible first|refine nz (JC hk) ?_|apply ny;simp only[f10,JG,C9,C7,C8,c19,c20,c21,hd,h0,hst,h1,h2,go_sem];rfl
  exact⟨rfl,rfl,_,rfl,rfl⟩
 cases he:evB n
 ·repeat with_reducible first|refine nz (JC hk) ?_|apply ny;simp only[f10,JG,C9,C7,C8,c19,c20,c21,c46,hd,hdn,h0,hst,he,h1,h2,go_sem];rfl
  exact⟨rfl,rfl,_,rfl,rfl⟩
 by_cases hsl:o.length<=12
 case neg =>
  repeat with_reducible first|refine nz (JC hk) ?_|apply ny;simp only[f10,JG,C9,C7,C8,c19,c20,c21,c46,c30,hd,hdn,hdo,hco,h0,hst,he,hsl,h1,h2,go_sem];rfl
  exact⟨rfl,rfl,_,rfl,rfl⟩
 have hO:=Sty.story_ok hst;have hrl:=s.rl_len;have hk10:s.rz.length<=10:=by have:=hO.r10;omega
 have q1:s.rz.length<=1000:=by omega
 have q2:o.length<=1000:=by omega
 cases hri:CV s.rz.length (-1) o
 ·repeat with_reducible first|refine nz (JC hk) ?_|apply ny;simp only[f10,JG,C9,C7,C8,c19,c20,c21,c46,c30,c54,hd,hdn,hdo,hco,h0,hst,he,hsl,hri,q1,q2,h1,h2,go_sem];rfl
  exact⟨rfl,rfl,_,rfl,rfl⟩
 by_cases hg0:gone<0
 ·repeat with_reducible first|refine nz (JC hk) ?_|apply ny;simp only[f10,JG,C9,C7,C8,c19,c20,c21,c46,c30,c54,hd,hdn,hdo,hco,h0,hst,he,hsl,hri,q1,q2,hg0,h1,h2,go_sem];rfl
  exact⟨rfl,rfl,_,rfl,rfl⟩
 by_cases hgk:(s.rz.length:Int)<=gone
 ·repeat with_reducible first|refine nz (JC hk) ?_|apply ny;simp only[f10,JG,C9,C7,C8,c19,c20,c21,c46,c30,c54,hd,hdn,hdo,hco,h0,hst,he,hsl,hri,q1,q2,hg0,hgk,h1,h2,EO,go_sem];rfl
  exact⟨rfl,rfl,_,rfl,rfl⟩
 obtain⟨g,rfl⟩:∃g:Nat,gone=g:=⟨gone.toNat,by omega⟩
 obtain⟨l1,l2,z1,z2,e,hV,hC,hz1,hz2,m1,m2,hE⟩:=both_51 (n:=n) hst he;obtain⟨c,rfl,hc1,hc2⟩:=IZ hri;have hrn:=JI c;have hcn:(bH c).length=c.length:=DX ..;have hd1:aN (.sl z1 ((bH l1).map ii))=some (bH l1):=aI hz1;have hd2:aN (.sl z2 ((bH l2).map ii))=some (bH l2):=aI hz2;have hcl1:=ac (bH l1);have hcl2:=ac (bH l2);have hn1:(bH l1).length=l1.length:=DX ..;have hn2:(bH l2).length=l2.length:=DX ..;have hGk:∀rs∈Jg s n,∀i∈rs,i<s.rz.length:=by
  have hr:=G8 hO;have hkk:∀d∈fU s.e s.sc s.rl,∀i∈d.1,i<s.rz.length:=fun d hd i hi=>by rw[←hrl];exact(hr d hd).2 i hi
  exact H2 hkk
 have hgl:g<s.rz.length:=by omega
 obtain⟨G,hG⟩:∃G,G=Jg s n:=⟨_,rfl⟩;rw[←hG]at hE hGk;have hG':Jg s n=G:=hG.symm;clear hG;repeat with_reducible first|refine nz (JC hk) ?_|apply ny;simp only[f10,JG,C9,C7,C8,c19,c20,c21,c46,c30,c54,c50,c51,c55,hd,hdn,hdo,hco,h0,hst,he,hsl,hri,hrn,hG',q1,q2,hg0,hgk,hV,hC,hcl1,hcl2,h1,h2,EO,go_sem];rfl
 refine am.keep [16,15,14,13,12,11,10,9,8,5,4,2,3] (by simp only[go_sem];rfl) ?_
 refine am.nilRow 15 3 1 (by simp only[go_sem]) (by simp only[go_sem];rfl) (by simp only[go_sem];rfl) ?_
 generalize hB1:JL G c=b1;refine am.loop (fun i s'=>s'=⟨[(16,ii (i:Int)),(15,.ms 2 (Ik i g).length),(14,.bool true),(13,.bool b1),(12,ii e),(11,.sl z2 ((bH l2).map ii)),(10,ii e),(9,.sl z1 ((bH l1).map ii)),(8,.bool false),(5,.bp 1 0),(4,.bp 0 0),(2,.sl z ((bH c).map ii)),(3,ii (g:Int))],207,[.var s.cells false,.var (ntC n) false,.row (decide ((Ik i g).length=0)) 3 1 ((Ik i g).map ii) false]⟩) s.rz.length (by first|(simp only[go_sem];first|done|rfl)|rfl) ?_
 rintro k _ hk' rfl;have hBl:=JT k g;by_cases hlk:k<s.rz.length
 ·have hlk':(k:Int)<s.rz.length:=by omega
  have e5:=wIs k (by omega)
  have hst3:=IB k g;generalize Ik k g=B at hst3 hBl ⊢;have r1:B.length+1<=maxLen:=by unfold maxLen;omega
  have r2:(B.length+1)*8<=140737488355328:=by omega
  have hdd:decide (B.length+1=0)=false:=by simp
  by_cases hki:k=g
  ·have hki':((k:Int) != (g:Int))=false:=by rw[hki];simp
   rw[DZ hki,Er]at hst3;repeat with_reducible first|refine nz aa ?_|apply ny;simp only[f10,hlk',hki',e5,r1,r2,go_sem];rfl
   refine ak.t 3 [16,15,14,13,12,11,10,9,8,5,4,2,3] hlk (by simp only[aA,aF,an,az,bJ,go_sem]) (by rw[hst3];first|(simp only[go_sem];first|done|rfl)|rfl)
  ·have hki':((k:Int) != (g:Int))=true:=eC (by omega)
   rw[D5 hki]at hst3;repeat with_reducible first|refine nz aa ?_|apply ny;simp only[f10,hlk',hki',e5,r1,r2,go_sem];rfl
   refine ak.t 3 [16,15,14,13,12,11,10,9,8,5,4,2,3] hlk (by simp only[aA,aF,an,az,bJ,go_sem]) (by rw[hst3,Ec,Ea];first|(simp only[hdd,go_sem];first|done|rfl)|rfl)
 obtain rfl:k=s.rz.length:=by omega
 have hlk':¬(s.rz.length:Int)<s.rz.length:=by omega
 rw[butI_nat];have hbr:CV s.rz.length (-1) (bH (butR s.rz.length g))=true:=JM (Jv _ _) (butR_lt _ _) fun i _=>by omega
 have hbn:=JI (butR s.rz.length g);have hgm:=loss_but hGk hgl;generalize butR s.rz.length g=B at hbr hbn hgm ⊢;generalize hB2:JL G B=b2 at hgm;repeat with_reducible first|(fail_if_success refine am.seq (x:=.region 12 _ _) ?_);(fail_if_success show am _ (.region 12 _ _) _ _);refine nz aa ?_|apply ny;simp only[f10,hlk',go_sem];rfl
 obtain⟨zB,hzB⟩:∃zB:Z,zB=(if decide ((bH B).length=0)=true then .n else .a):=⟨_,rfl⟩;have hzBn:zOk zB ((bH B).map ii)=true:=by
  rw[hzB];cases B <;> rfl
 have hcB:=ac (bH B);have hdB:aN (.sl zB ((bH B).map ii))=some (bH B):=aI hzBn;refine am.keep [15,14,13,12,11,10,9,8,5,4,2,3] (by simp only[go_sem];rfl) ?_
 refine am.freezeZ (tm':=[(15,.sl zB ((bH B).map ii)),(14,.bool true),(13,.bool b1),(12,ii e),(11,.sl z2 ((bH l2).map ii)),(10,ii e),(9,.sl z1 ((bH l1).map ii)),(8,.bool false),(5,.bp 1 0),(4,.bp 0 0),(2,.sl z ((bH c).map ii)),(3,ii (g:Int))]) (sg':=[.var s.cells false,.var (ntC n) false,.row (decide ((bH B).length=0)) 3 1 ((bH B).map ii) true]) 15 2 rfl rfl (by rw[DX]) hcB rfl (by rw[hzB];rfl) ?_
 clear hzB;rcases hE with ⟨rfl,rfl⟩|⟨rfl,hx,rfl⟩
 ·obtain rfl:b1=false:=hB1.symm.trans rfl
  obtain rfl:b2=false:=hB2.symm.trans rfl;repeat with_reducible first|refine nz (JC hk) ?_|apply ny;simp only[f10,JG,C9,C7,C8,c21,c55,hd,hdn,hst,he,hdB,hcB,hbr,hbn,hG',hB2,n50,n55,h1,h2,bne_self_eq_false,go_sem];rfl
  exact⟨rfl,rfl,_,rfl,rfl⟩
 obtain⟨x1,x2,x3,x4⟩:=best_cov hGk hx;have hr1:CV s.rz.length (-1) (bH l1)=true:=JM x2 x3 fun i _=>by omega
 have hr2:CV s.rz.length (-1) (bH (JF s.rz.length G))=true:=JM (Jk _ _) lossR_lt fun i _=>by omega
 have hlx:∀r∈JF s.rz.length G,r∈l1∧(b1=true->r∈c):=fun r hr=>⟨Jb hr x1,fun hb=>Jb hr (by rw[hB1,hb])⟩
 have hrn1:=JI l1;have hgm':((decide ((g:Int)∈bH (JF s.rz.length G)))==b2)=false:=by
  have e:decide ((g:Int)∈bH (JF s.rz.length G))=decide (g∈JF s.rz.length G):=by rw[Fa];exact zE
  rw[e,hgm];cases b2 <;> rfl
 have hbt:b1=true->Hg c l1=false:=fun hb=>x4 c hc1 hc2 (by rw[hB1,hb])
 clear hx x2 x3 x4 hGk hgm;generalize JF s.rz.length G=l2 at *;have p1:(bH l1).length<=1000:=by omega
 have p2:(bH l2).length<=1000:=by omega
 have p3:(bH c).length<=1000:=by omega
 have p4:(bH c).length<=100000:=by omega
 repeat with_reducible first|(fail_if_success refine am.seq (x:=.region 17 _ _) ?_);(fail_if_success show am _ (.region 17 _ _) _ _);refine nz (JC hk) ?_|apply ny;simp only[f10,JG,C9,C7,C8,c21,c55,hd,hdn,hst,he,hdB,hcB,hbr,hbn,hG',hB2,n00,h1,h2,bne_self_eq_false,go_sem];rfl
 refine am.cutK [167,13,11,9,8,5,4,2,3] (tm':=[(167,.bool false),(13,.bool b1),(11,.sl z2 ((bH l2).map ii)),(9,.sl z1 ((bH l1).map ii)),(8,.bool false),(5,.bp 1 0),(4,.bp 0 0),(2,.sl z ((bH c).map ii)),(3,ii (g:Int))]) (n':=207) (sg':=[.var s.cells false,.var (ntC n) false,.row (decide ((bH B).length=0)) 3 1 ((bH B).map ii) true]) ?_ ?_
 ·cases b1 with
  |false =>
   repeat with_reducible first|refine nz (JC hk) ?_|apply ny;simp only[f10,JG,C9,C7,C8,c54,c42,hd,hd1,hd2,hr1,hr2,hgm',hcl1,hcl2,p1,p2,q1,h1,h2,go_sem];rfl
   exact⟨rfl,rfl,rfl,rfl⟩
  |true =>
   have hb:=hbt rfl;unfold Hg at hb;rw[Bool.or_eq_false_iff]at hb;have hb1:¬((bH c).length:Int)<(bH l1).length:=by
    have:=FM hb.1
    omega
   by_cases hel:(bH c).length=(bH l1).length
   ·have hel':(((bH c).length:Int)==((bH l1).length:Int))=true:=by rw[hel];simp
    have hsn:aV (bH c) (bH l1)=false:=by
     have h3:=hb.2;rw[Ej (by omega:c.length=l1.length),EJ]at h3
     exact h3
    repeat with_reducible first|refine nz (JC hk) ?_|apply ny;simp only[f10,JG,C9,C7,C8,c54,c42,c28,hd,hd1,hd2,hdo,hr1,hr2,hgm',hb1,hel',hsn,hco,hcl1,hcl2,p1,p2,p4,q1,h1,h2,go_sem];rfl
    exact⟨rfl,rfl,rfl,rfl⟩
   ·have hel':(((bH c).length:Int)==((bH l1).length:Int))=false:=by rw[EF];omega
    repeat with_reducible first|refine nz (JC hk) ?_|apply ny;simp only[f10,JG,C9,C7,C8,c54,c42,hd,hd1,hd2,hdo,hr1,hr2,hgm',hb1,hel',hco,hcl1,hcl2,p1,p2,q1,h1,h2,go_sem];rfl
    exact⟨rfl,rfl,rfl,rfl⟩
 repeat with_reducible first|refine nz aa ?_|apply ny;simp only[f10,go_sem];rfl
 refine am.keep [19,13,11,9,8,5,4,2,3] (by simp only[go_sem];rfl) ?_
 refine am.loop (fun i s'=>s'=⟨[(19,ii (i:Int)),(13,.bool b1),(11,.sl z2 ((bH l2).map ii)),(9,.sl z1 ((bH l1).map ii)),(8,.bool false),(5,.bp 1 0),(4,.bp 0 0),(2,.sl z ((bH c).map ii)),(3,ii (g:Int))],207,[.var s.cells false,.var (ntC n) false,.row (decide ((bH B).length=0)) 3 1 ((bH B).map ii) true]⟩) l2.length (by first|(simp only[go_sem];first|done|rfl)|rfl) ?_
 rintro i _ hi rfl;by_cases hlt:i<l2.length
 ·obtain⟨r,hr⟩:=gex hlt
  have hri2:(bH l2)[i]?=some (r:Int):=aw hr;have hr':((bH l2).map ii)[i]?=some (ii (r:Int)):=aw hri2;have hlt':(i:Int)<l2.length:=by omega
  have hz2':z2≠.n:=fun e=>by
   have:=bd hz2 e
   rw[this]at hn2;simp at hn2;omega
  have e5:=wIs i (by omega)
  obtain⟨hm1,hm2⟩:=hlx r (DU hr);have hm1':decide ((r:Int)∈bH l1)=true:=Ej (zE.2 hm1);cases b1 with
  |false =>
   repeat with_reducible first|refine nz (JC hk) ?_|apply ny;simp only[f10,JG,c42,hd1,hd2,hr',hlt',hz2',hm1',hcl1,p1,e5,hn2,go_sem];rfl
   refine ak.t 3 [19,13,11,9,8,5,4,2,3] hlt (by simp only[aA,aF,an,az,bJ,go_sem]) (by first|(simp only[go_sem];first|done|rfl)|rfl)
  |true =>
   have hm2':decide ((r:Int)∈bH c)=true:=Ej (zE.2 (hm2 rfl));repeat with_reducible first|refine nz (JC hk) ?_|apply ny;simp only[f10,JG,c42,hd1,hd2,hdo,hr',hlt',hz2',hm1',hm2',hco,hcl1,p1,p3,e5,hn2,go_sem];rfl
   refine ak.t 3 [19,13,11,9,8,5,4,2,3] hlt (by simp only[aA,aF,an,az,bJ,go_sem]) (by first|(simp only[go_sem];first|done|rfl)|rfl)
 obtain rfl:i=l2.length:=by omega
 have hlt':¬(l2.length:Int)<l2.length:=by omega
 repeat with_reducible first|refine nz (JC hk) ?_|apply ny;simp only[f10,JG,C9,C7,C8,c21,c55,hd,hdn,hst,he,hd1,hr1,hrn1,hG',x1,hlt',hcl1,h1,h2,hn2,go_sem];rfl
 exact⟨rfl,rfl,_,rfl,rfl⟩
end Go.Pv
