import Derived.Test.YtkjalecddameoaaGreatDoorQmGoo
import Derived.Test.YtkjalecddameoaaGreatDoorQjPlays
set_option linter.all false
open Go.Proofs.Tryz
namespace Go.Pv
open Go Go.RowKit Go.Proofs
set_option maxRecDepth 200000
set_option maxHeartbeats 8000000
def c52:Tb_
 |[v,w],sg=>match cS v,gJ w with
  |some s,some n=>if s.story=true∧evB n=true then(match (HZ s.rz.length).find? (fun c=>e8 (JE s n) (bH c))with
   |some x=>some (.ret (.tuple [slc x,.bool true]),sg)
   |none=>none)else none
  |_,_=>none
 |_,_=>none
theorem c52_ok:al prog 52 c52:=al.of0 (ent func52 rfl) fun args sg r sg' h=>by
 unfold c52 at h;split at h <;> try (cases h;done)
 split at h <;> try (cases h;done)
 rename_i s n h1 h2;split at h <;> try (cases h;done)
 rename_i hc;split at h <;> cases h
 rename_i x hx;obtain⟨rfl,hok⟩:=aM h1;obtain rfl:=dz h2;exact⟨_,rfl,rfl,by rw[af,af,cm];rfl,Ih s hok hc.1 n hc.2 hx⟩
def c53:Tb_
 |[v,w],sg=>match cS v,gJ w with
  |some s,some n=>if s.story=true∧evB n=true then some (.ret (isV (Hu s.rz.length s.rz.length (JE s n))),sg)else none
  |_,_=>none
 |_,_=>none
theorem c53_ok:al prog 53 c53:=al.of0 (ent func53 rfl) fun args sg r sg' h=>by
 unfold c53 at h;split at h <;> try (cases h;done)
 split at h <;> try (cases h;done)
 rename_i s n h1 h2;split at h <;> cases h
 rename_i hc;obtain⟨rfl,hok⟩:=aM h1;obtain rfl:=dz h2;exact⟨_,rfl,rfl,by rw[af,af,cm];rfl,Ib s hok hc.1 n hc.2⟩
theorem los_both{s:Sty}{n:Nt}(hst:s.story=true):HO s.rl.length (Hv s n)=Hu s.rz.length s.rz.length (JE s n):=by
 have hr:=G8 (Sty.story_ok hst);have hk:∀d∈fU s.e s.sc s.rl,∀i∈d.1,i<s.rl.length:=fun d hd=>(hr d hd).2
 rw[←s.rl_len];unfold HO Hu
 congr 1
 have h1:(List.range s.rl.length).filter (fun r:Nat=>!((Hv s n).any fun x=>!decide ((r:Int)∈x)))=JF s.rl.length (H6 (fU s.e s.sc s.rl) (jf n s.sc (aX s.e s.sc s.rl))):=by
  unfold JF;refine IQ fun r _=>?_
  rw[JX hk r,Bool.not_not]
 rw[h1,JU _ (H2 hk)];refine IQ fun r _=>?_
 rw[HW];rfl
theorem IC{s:Sty}{n:Nt}(hst:s.story=true){o:List Int}{l:List (List Int)}(ht:Hv s n=o::l):∃x,(HZ s.rz.length).find? (fun c=>e8 (JE s n) (bH c))=some x∧Hc o l=bH x∧x.length<=10:=by
 have e:(fun c=>e8 (JE s n) (bH c))=JL (Jg s n):=by funext c;rw[HW];rfl
 rw[e];exact J0 hst ht
def cfN9:CallF:=aE (aE (aE (aE (aE (aE C9 46 c46) 49 c49) 50 c50) 51 c51) 52 c52) 53 c53
theorem be(hk:al prog 21 c21):CallFOk prog cfN9:=ah (ah (ah (ah (ah (ah (JV hk) c46_ok) c49_ok) c50_ok) c51_ok) c52_ok) c53_ok
theorem IF(hk:al prog 21 c21)(s:Sty)(hok:s.ok=true)(n:Nt):ab prog 9 [.agg s.cells,.agg (ntC n)] [] (.ret (.bool true)) []:=by
 refine ab.of0 hTT func9 rfl rfl ?_;have hd:=aS s hok;have hdn:gJ (.agg (ntC n))=some n:=fF n;have h1:=ap s.sc;have h2:=ao s.rz;have n00:((0:Int) != 0)=false:=rfl;have n20:((2:Int) != 0)=true:=rfl;have n50:((5:Int) != 0)=true:=rfl;cases h0:ub s
 ·repeat with_reducible first|refine nz (be hk) ?_|apply ny;simp only[f9,cfN9,C9,C7,C8,c19,c21,hd,h0,h1,h2,go_sem];rfl
  exact⟨rfl,rfl,_,rfl,rfl⟩
 have hVb:(s.story&&evB n)=false->Hj s n=.tuple [.sl .n [],ii 2]:=fun e=>by unfold Hj;rw[e,D5 (by simp)]
 have hCb:(s.story&&evB n)=false->Id s n=.tuple [.sl .n [],ii 2]:=fun e=>by unfold Id;rw[e,D5 (by simp)]
 cases hst:s.story
 ·have hV:=hVb (by rw[hst];rfl)
  have hC:=hCb (by rw[hst];rfl)
  repeat with_reducible first|refine nz (be hk) ?_|apply ny;simp only[f9,cfN9,C9,C7,C8,c19,c20,c21,c50,c51,c46,hd,hdn,h0,hst,hV,hC,n20,h1,h2,Fe,go_sem];rfl
  exact⟨rfl,rfl,_,rfl,rfl⟩
 cases he:evB n
 ·have hV:=hVb (by rw[hst,he];rfl)
  have hC:=hCb (by rw[hst,he];rfl)
  repeat with_reducible first|refine nz (be hk) ?_|apply ny;simp only[f9,cfN9,C9,C7,C8,c19,c20,c21,c50,c51,c46,hd,hdn,h0,hst,he,hV,hC,n20,h1,h2,Fe,go_sem];rfl
  exact⟨rfl,rfl,_,rfl,rfl⟩
 have hse:(s.story&&evB n)=true:=by rw[hst,he];rfl
 obtain⟨t40,t10,tnil⟩:=Hr n hst;have hNV:Hj s n=(match Hv s n with
  |[]=>.tuple [.sl .n [],ii 5]
  |o::l=>.tuple [slx (Hc o l),ii 0]):=by unfold Hj;rw[hse,DZ rfl];cases Hv s n <;> rfl
 have hLV:Id s n=(match Hv s n with
  |[]=>.tuple [.sl .n [],ii 5]
  |o::l=>.tuple [isV (HO s.rl.length (o::l)),ii 0]):=by unfold Id;rw[hse,DZ rfl];cases Hv s n <;> rfl
 have hlb:=los_both (n:=n) hst;have hnb:=fun o l=>IC (n:=n) hst (o:=o) (l:=l)
 have hPc:=aC (jf n s.sc (aX s.e s.sc s.rl));generalize hT:Hv s n=T at *;cases T with
 |nil =>
  have hF:jf n s.sc (aX s.e s.sc s.rl)=[]:=tnil.1 rfl;have hFp:kT ([]:List (List Int))=.sl .n []:=rfl;have hV:Hj s n=.tuple [.sl .n [],ii 5]:=hNV;have hC:Id s n=.tuple [.sl .n [],ii 5]:=hLV;repeat with_reducible first|refine nz (be hk) ?_|apply ny;simp only[f9,cfN9,C9,C7,C8,c19,c20,c21,c46,c49,c50,c51,hd,hdn,h0,hst,he,hV,hC,hF,hFp,n50,h1,h2,Fe,go_sem];rfl
  exact⟨rfl,rfl,_,rfl,rfl⟩
 |cons o l =>
  have hFn:jf n s.sc (aX s.e s.sc s.rl)≠[]:=fun e=>by have:=tnil.2 e;cases this
  obtain⟨x,hx1,hx2,hx3⟩:=hnb o l rfl;have hV:Hj s n=.tuple [slx (Hc o l),ii 0]:=hNV;have hC:Id s n=.tuple [isV (HO s.rl.length (o::l)),ii 0]:=hLV;rw[hx2]at hV;rw[hlb]at hC;have hsX:slx (bH x)=.sl .a ((bH x).map ii):=rfl;rw[hsX]at hV;have hRX:slc x=.sl (if x=[]then .n else .a) ((bH x).map ii):=Hp x;have hzx:zOk (if x=[]then Z.n else Z.a) ((bH x).map ii)=true:=qy fun e=>by
   split at e
   ·rename_i h;rw[h];rfl
   ·cases e
  generalize (if x=[]then Z.n else Z.a)=zx at hRX hzx;have hXl:(bH x).length<=maxLen:=by unfold bH maxLen;rw[DX];omega
  have hLl:=H0 s.rz.length s.rz.length (JE s n);have hk10:s.rz.length<=10:=by have:=(Sty.story_ok hst).r10;have:=s.rl_len;omega
  have hLm:(Hu s.rz.length s.rz.length (JE s n)).length<=maxLen:=by unfold maxLen;omega
  have hcX:=ac (bH x);have hcL:=ac (Hu s.rz.length s.rz.length (JE s n));obtain⟨zl,hLV2,hzl⟩:∃zl:Z,isV (Hu s.rz.length s.rz.length (JE s n))=.sl zl ((Hu s.rz.length s.rz.length (JE s n)).map ii)∧zOk zl ((Hu s.rz.length s.rz.length (JE s n)).map ii)=true:=by
   generalize Hu s.rz.length s.rz.length (JE s n)=U;refine⟨_,rfl,qy fun e=>?_⟩
   split at e
   ·rename_i h;exact Ew.1 h
   ·cases e
  generalize hX0:bH x=X at *;generalize hG0:Hu s.rz.length s.rz.length (JE s n)=U at *;rw[hLV2]at hC;have hdX:=aI (z:=Z.a) (l:=X) rfl;have hdX2:=aI hzx;have hdU:=aI hzl;have heX:decide (X=X)=true:=Ej rfl;have heU:decide (U=U)=true:=Ej rfl;generalize hF:jf n s.sc (aX s.e s.sc s.rl)=ps at *;have b0:((ps.length:Int)==0)=false:=by
   rw[EF];have:ps.length≠0:=fun e=>hFn (Ew.1 e)
   omega
  repeat with_reducible first|refine nz (be hk) ?_|apply ny;simp only[f9,cfN9,C9,C7,C8,c19,c20,c21,yD,c46,c49,c50,c51,c52,c53,lJ,hd,hdn,h0,hst,he,hV,hC,hF,hx1,hRX,hG0,hLV2,hdX,hdX2,hdU,heX,heU,hXl,hLm,hcX,hcL,hPc,b0,n00,h1,h2,Fe,go_sem];rfl
  exact⟨rfl,rfl,_,rfl,rfl⟩
end Go.Pv
