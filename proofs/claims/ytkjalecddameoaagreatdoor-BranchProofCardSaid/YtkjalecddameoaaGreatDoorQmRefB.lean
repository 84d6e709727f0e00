import Derived.Test.YtkjalecddameoaaGreatDoorQmRef
set_option linter.all false
namespace Go.Pv
open Go Go.RowKit Go.Proofs
set_option maxRecDepth 200000
set_option maxHeartbeats 8000000
structure NtWd(n:Nt):Prop where
 k0:n.w0.2-n.w0.1<=1000
 k1:n.w1.2-n.w1.1<=1000
 k2:n.w2.2-n.w2.1<=1000
def wdB(n:Nt):Bool:=decide (n.w0.2-n.w0.1<=1000)&&decide (n.w1.2-n.w1.1<=1000)&&decide (n.w2.2-n.w2.1<=1000)
theorem wd_iff{n:Nt}:wdB n=true↔NtWd n:=by
 unfold wdB;simp only[Bool.and_eq_true,decide_eq_true_eq];exact⟨fun h=>⟨h.1.1,h.1.2,h.2⟩,fun h=>⟨⟨h.k0,h.k1⟩,h.k2⟩⟩
theorem sH:∀{l:List Sn} {p:Int},kK p l=true->∀x∈l,1<=x.least∧x.least<=240∧x.least<=x.most∧x.most<=240
 |[],_,_,x,hx=>by cases hx
 |y::l,p,h,x,hx=>by
  rw[kK]at h;simp only[Bool.and_eq_true,bm]at h;rcases List.mem_cons.1 hx with rfl|hx
  ·omega
  ·exact sH h.2 x hx
structure PlanOk(n:Nt)(l:List Sn):Prop where
 l1:1<=l.length
 l10:l.length<=10
 win:WinOk n
 fit:FitL l
 nt:ntB n=true
 wd:wdB n=true
 sm:smB l=true
theorem xn{n:Nt}{l:List Sn}(h:du n l=true):PlanOk n l:=by
 have hs:kK 0 l=true:=by unfold du at h;simp only[Bool.and_eq_true]at h;exact h.1.2
 have hm:=sH hs;unfold du evB fD at h;simp only[Bool.and_eq_true,bm,decide_eq_true_eq]at h;obtain⟨⟨⟨⟨⟨⟨e1,e2⟩,e3⟩,e4⟩,e5⟩,_⟩,_⟩:=h;refine⟨by omega,by omega,⟨by omega,by omega,by omega⟩,fun x hx=>by have:=hm x hx;omega,xW.2 ⟨by omega,by omega,by omega,by omega,by omega,by omega,by omega⟩,wd_iff.2 ⟨by omega,by omega,by omega⟩,?_⟩
 unfold smB;refine List.all_eq_true.2 fun x hx=>?_
 have:=hm x hx
 rw[Bool.and_eq_true,kD,kD];omega
theorem PlanOk.fitC{n:Nt}{l:List Sn}(h:PlanOk n l){c:List Nat}(hc:IsCho l c):fitB l c=true:=by
 unfold fitB;have hl:=jG (n:=l.length) (i:=0) hc.rise fun x hx=>⟨Nat.zero_le _,hc.lt x hx⟩
 have:=h.l10
 rw[h.sm,Bool.true_and,Bool.and_eq_true];refine⟨?_,decide_eq_true (by omega)⟩
 unfold rgB;exact List.all_eq_true.2 fun x hx=>decide_eq_true (hc.lt x hx)
theorem iG(n:Nat):∀k i,(c7 n k i).length<=2 ^ (n-i)
 |0,i=>Nat.one_le_two_pow
 |k+1,i=>by
  have ih:=iG n k;have aux:∀m i,i+m=n->((List.range' i m).flatMap fun j=>(c7 n k (j+1)).map (j::·)).length+1<=2 ^ m:=by
   intro m;induction m with
   |zero=>intro i _;exact Nat.le_refl _
   |succ m ihm =>
    intro i hi;have h1:=ihm (i+1) (by omega)
    have h2:=ih (i+1);rw[show n-(i+1)=m by omega]at h2
    rw[List.range'_succ,List.flatMap_cons,List.length_append,List.length_map,Nat.pow_succ];omega
  rw[c7];by_cases h:i<=n
  ·have:=aux (n-i) i (by omega)
   omega
  ·rw[show n-i=0 by omega]
   exact Nat.zero_le _
def choK(l:List Sn)(k:Nat):List (List Nat):=(c7 l.length k 0).filter (chB l 0)
theorem choL_eq(l:List Sn):nO l=((List.range (l.length+1)).reverse).flatMap (choK l):=rfl
end Go.Pv
