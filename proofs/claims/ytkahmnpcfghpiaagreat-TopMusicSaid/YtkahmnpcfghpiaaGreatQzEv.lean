import Derived.Test.YtkahmnpcfghpiaaGreatQzRef
import Derived.Test.YtkahmnpcfghpiaaGreatQkkCz
import Derived.Test.YtkahmnpcfghpiaaGreatQzAgr
set_option linter.all false
open Go.Proofs.Tryz
namespace Go.Pv
open Go Go.RowKit Go.Proofs
set_option maxRecDepth 200000
set_option maxHeartbeats 80000000
def cuB(c:Int)(p:List Int):List Int:=(p.take 8).map fun x=>Int.tmod x c
theorem Lj(b:Bk)(z:Z)(p:List Int)(hz:z=.n->p=[])(hc:0<b.cues∧b.cues<=1000)(hp:∀x∈p,0<=x∧x<100000)(hl:p.length<=100000):
 ab prog 20 [.agg b.cells,.sl z (p.map ii)] [] (.ret (.sl (emZ (cuB b.cues p)) ((cuB b.cues p).map ii))) []:=by
 refine ab.ofF hTT func20 rfl rfl ?_;have hcl:=ac p;have hcb:=bh b.vs;have hq0:cuB b.cues (p.take 0)=[]:=rfl;repeat with_reducible first|refine nz aa ?_|apply ny;simp only[f20,hcb,hcl,go_sem];rfl
 refine am.keep [6,5,2,1] (by simp only[go_sem];rfl) ?_
 refine am.nilRow 5 3 1 (by simp only[go_sem]) (by simp only[go_sem];rfl) (by simp only[go_sem];rfl) ?_
 refine am.loop (fun i s'=>s'=⟨[(6,ii (i:Nat)),(5,.ms 1 i),(2,.bp 0 0),(1,.sl z (p.map ii))],28,[.var b.cells false,.row (decide (i=0)) 3 1 ((cuB b.cues (p.take i)).map ii) false]⟩) (min 8 p.length) (by first|(simp only[hq0,go_sem];first|done|rfl)|rfl) ?_
 rintro i _ hi rfl;by_cases hlt:i<min 8 p.length
 ·have hlp:i<p.length:=by omega
  obtain⟨x,hx⟩:=gex hlp;have hx':(p.map ii)[i]?=some (ii x):=aw hx;have hxb:=hp x (DU hx);have hlt':(i:Int)<p.length:=by omega
  have hl8:(i:Int)<8:=by omega
  have hz':z≠.n:=fun e=>by rw[hz e]at hlp;simp at hlp
  have hc0:b.cues≠0:=by omega
  have e4:=wIs i (by omega)
  have q1:(i+1)*8<=140737488355328:=by omega
  have q2:i+1<=maxLen:=by unfold maxLen;omega
  have hd1:decide (i+1=0)=false:=by simp
  have hrl:(cuB b.cues (p.take i)).length=i:=by unfold cuB;rw[DX,En,En];omega
  have hst:cuB b.cues (p.take (i+1))=cuB b.cues (p.take i)++[Int.tmod x b.cues]:=by
   unfold cuB;rw[Ll,Ll,Nat.min_eq_right (by omega),Nat.min_eq_right (by omega),Ev,hx,Ec]
   rfl
  generalize cuB b.cues (p.take i)=A at hst hrl ⊢;repeat with_reducible first|refine nz aa ?_|apply ny;simp only[f20,hx',hlt',hl8,hz',hc0,hrl,e4,q1,q2,hcb,hcl,go_sem];rfl
  refine ak.t 2 [6,5,2,1] hlt (by simp only[aF,k5,bJ,go_sem]) (by rw[hst,hd1];simp only[Ec,go_sem])
 ·have hi8:i=min 8 p.length:=by omega
  have hcu:cuB b.cues (p.take i)=cuB b.cues p:=by
   unfold cuB;rw[Ll];by_cases h8:p.length<=8
   ·rw[EQ (by omega:p.length<=min 8 i),EQ h8]
   ·rw[show min 8 i=8 by omega]
  have hln:(cuB b.cues p).length=i:=by unfold cuB;rw[DX,En];omega
  have hem:(if decide (i=0)=true then Z.n else Z.a)=emZ (cuB b.cues p):=by
   unfold emZ;by_cases h0:i=0
   ·rw[DZ (Ej h0),DZ (Ew.1 (by omega))]
   ·rw[D5 (by simpa using h0),D5 (fun e=>h0 (by rw[←hln,e];rfl))]
  rw[hcu,←hem];by_cases hlt':(i:Int)<p.length
  ·have hl8:¬(i:Int)<8:=by omega
   repeat with_reducible first|refine nz aa ?_|apply ny;simp only[f20,hlt',hl8,hcb,hcl,go_sem];rfl
   exact⟨rfl,rfl,_,rfl,leave_row (id:=1) rfl (ac _) (by rw[DX,hln])⟩
  ·repeat with_reducible first|refine nz aa ?_|apply ny;simp only[f20,hlt',hcb,hcl,go_sem];rfl
   exact⟨rfl,rfl,_,rfl,leave_row (id:=1) rfl (ac _) (by rw[DX,hln])⟩
def c20u:Tb_
 |[v,w],sg=>match Kb v,aN w with
  |some b,some p=>if(0<b.cues∧b.cues<=1000∧p.length<=100000)∧(p.all fun x=>inB x 0 99999)=true then some (.ret (.sl (emZ (cuB b.cues p)) ((cuB b.cues p).map ii)),sg)else none
  |_,_=>none
 |_,_=>none
theorem c20u_ok:al prog 20 c20u:=al.of0 (ent func20 rfl) fun args sg r sg' h=>by
 unfold c20u at h;split at h <;> try (cases h;done)
 split at h <;> try (cases h;done)
 rename_i h1 h2;split at h <;> cases h
 rename_i hc;obtain⟨rfl,hok⟩:=qs h1;obtain⟨zp,rfl,hp⟩:=aJ h2;exact⟨_,rfl,rfl,by rw[af,FP,af,bt];rfl,Lj _ _ _ hp ⟨hc.1.1,hc.1.2.1⟩ (fun x hx=>by have:=bm.1 (D7.1 hc.2 x hx);omega) hc.1.2.2⟩
theorem Has_23(z:Z)(l:List Int)(n:Int)(hz:z=.n->l=[])(hl:l.length<=100000):ab prog 23 [.sl z (l.map ii),ii n] [] (.ret (.bool (l.any fun x=>x==n))) []:=by
 refine ab.of0 hTT func23 rfl rfl ?_;have hR:(l.any fun x=>x==n)=(l.drop 0).any fun x=>x==n:=rfl
 generalize (l.any fun x=>x==n)=R at hR ⊢
 repeat with_reducible first|refine nz aa ?_|apply ny;simp only[f23,go_sem];rfl
 refine am.keep [5,0,1] (by simp only[go_sem];rfl) ?_
 refine am.loop (fun i s'=>R=((l.drop i).any fun x=>x==n)∧s'=⟨[(5,ii (i:Nat)),(0,.sl z (l.map ii)),(1,ii n)],18,[]⟩) l.length ⟨hR,by first|(simp only[go_sem];first|done|rfl)|rfl⟩ ?_
 clear hR;rintro i _ hi ⟨hR,rfl⟩;by_cases hlt:i<l.length
 ·obtain⟨x,hx⟩:=gex hlt
  have hx':(l.map ii)[i]?=some (ii x):=aw hx;have hlt':(i:Int)<l.length:=by omega
  have hz':z≠.n:=fun e=>by rw[hz e]at hlt;simp at hlt
  have e4:=wIs i (by omega)
  rw[aP hx,GG]at hR;cases hxn:x==n
  ·rw[hxn,IS]at hR
   repeat with_reducible first|refine nz aa ?_|apply ny;simp only[f23,hx',hlt',hz',hxn,e4,go_sem];rfl
   refine ak.t 0 [5,0,1] hlt (by simp only[aF,go_sem]) ⟨hR,by first|(simp only[go_sem];first|done|rfl)|rfl⟩
  ·have hR:R=true:=by rw[hR,hxn];rfl
   rw[hR];repeat with_reducible first|refine nz aa ?_|apply ny;simp only[f23,hx',hlt',hz',hxn,go_sem];rfl
   exact⟨rfl,rfl,_,rfl,rfl⟩
 ·have hlt':¬(i:Int)<l.length:=by omega
  have hR:R=false:=by rw[hR,Ef (by omega)];rfl
  rw[hR];repeat with_reducible first|refine nz aa ?_|apply ny;simp only[f23,hlt',go_sem];rfl
  exact⟨rfl,rfl,_,rfl,rfl⟩
def c23u:Tb_
 |[w,.int .i64 n],sg=>match aN w with
  |some l=>if l.length<=100000 then some (.ret (.bool (l.any fun x=>x==n)),sg)else none
  |_=>none
 |_,_=>none
theorem c23u_ok:al prog 23 c23u:=al.of0 (ent func23 rfl) fun args sg r sg' h=>by
 unfold c23u at h;split at h <;> try (cases h;done)
 split at h <;> try (cases h;done)
 rename_i h2;split at h <;> cases h
 rename_i hc;obtain⟨zp,rfl,hp⟩:=aJ h2;exact⟨_,rfl,rfl,by rw[af,bt];rfl,Has_23 _ _ _ hp hc⟩
theorem L32_ok:al prog 32 (dc [([],vS)]):=conL1 (ent func32 rfl) kkS rfl
theorem L33_ok:al prog 33 (dc [([],vN)]):=conL1 (ent func33 rfl) kkN rfl
theorem L9_ok:al prog 9 (dc [([vS,vN],r62)]):=conL1 (ent func9 rfl) k62 (by kernel_rfl)
def primT11:iY:=fE (fE (fE bf 32 (dc [([],vS)])) 33 (dc [([],vN)])) 9 (dc [([vS,vN],r62)])
theorem KJ:nt prog primT11:=aQ (aQ (aQ bu L32_ok) L33_ok) L9_ok
theorem K4:ab prog 8 [] [] (.ret (.bool true)) []:=bT KJ (k:=300) (by kernel_rfl)
def c8u:Tb_
 |[],sg=>some (.ret (.bool true),sg)
 |_,_=>none
theorem c8u_ok:al prog 8 c8u:=al.of0 (ent func8 rfl) fun args sg r sg' h=>by
 unfold c8u at h;split at h <;> cases h
 exact⟨_,rfl,rfl,rfl,K4⟩
end Go.Pv
