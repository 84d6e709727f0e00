import Derived.Test.YtkjalecddameoaaGreatDoorQmRefB
import Derived.Test.YtkjalecddameoaaGreatDoorSoMore
set_option linter.all false
namespace Go.Pv
open Go Go.RowKit Go.Proofs
set_option maxRecDepth 200000
set_option maxHeartbeats 8000000
theorem choL_len{l:List Sn}(hl:l.length<=10):(nO l).length<=20000:=by
 have key:∀q:List Nat,(q.flatMap (choK l)).length<=1024*q.length:=by
  intro q;induction q with
  |nil=>exact Nat.zero_le _
  |cons k q ih =>
   rw[List.flatMap_cons,List.length_append,List.length_cons];have h1:=iG l.length k 0;have h2:2 ^ (l.length-0)<=2 ^ 10:=Nat.pow_le_pow_right (by decide) (by omega)
   have h3:(choK l k).length<=(c7 l.length k 0).length:=List.length_filter_le ..;omega
 have:=key ((List.range (l.length+1)).reverse)
 rw[choL_eq];rw[List.length_reverse,List.length_range]at this;omega
theorem qO(l:List Sn)(i:Nat)(x:Sn):(l.map cH).set i (cH x)=(l.set i x).map cH:=by rw[List.map_set]
theorem fixL_at{l:List Sn}{i:Nat}{x:Sn}(h:l[i]?=some x)(k:Int):kQ l i k=l.set i { x with least:=k,most:=k }:=by unfold kQ;rw[h]
theorem BP{l:List Sn}(h:l.map nof=l)(i:Nat)(k:Int):(kQ l i k).map nof=kQ l i k:=by
 unfold kQ;split
 ·next x hx =>
  rw[List.map_set,h];have:nof x=x:=by
   have h2:(l.map nof)[i]?=some (nof x):=by rw[List.getElem?_map,hx];rfl
   rw[h,hx]at h2;exact(Option.some.inj h2).symm
  congr 1
  show nof { x with least:=k,most:=k }=_
  unfold nof at this ⊢;rw[Sn.mk.injEq];have hf:=congrArg Sn.formula this;exact⟨rfl,rfl,rfl,rfl,hf⟩
 ·exact h
theorem pH{sg:List Box}{id:Nat}{z:Bool}{e:TypeId}{k:Nat}{es:List PV}{frz:Bool}(h:sg[id]?=some (.row z e k es frz))(hc:ad es=true){m:Nat}(hm:m=es.length)(a0 a1 a2 a3 a4 a5 a6:Int):
 bR 0 (.agg [ii a0,ii a1,ii a2,ii a3,ii a4,ii a5,ii a6,.ms id m]) sg=(.agg [ii a0,ii a1,ii a2,ii a3,ii a4,ii a5,ii a6,.sl (if z then .n else .a) es],[]) :=
 A6 (by
  rw[tY (n:=7) (by simp[ad,PV.closed])]
  simp only[cO,aZ (n:=6) (v:=ii a0) rfl,aZ (n:=6) (v:=ii a1) rfl,aZ (n:=6) (v:=ii a2) rfl,aZ (n:=6) (v:=ii a3) rfl,aZ (n:=6) (v:=ii a4) rfl,aZ (n:=6) (v:=ii a5) rfl,aZ (n:=6) (v:=ii a6) rfl,frzX_row (n:=5) h hc hm]) (by simp[PV.closed,ad,hc])
theorem ns_all(l:List Sn):(l.map cH).all (fun y=>y.cells.length==5)=true:=by rw[List.all_map];exact List.all_eq_true.2 fun _ _=>rfl
structure SmF(l:List Sn):Prop where
 sm:∀x∈l,0<=x.least∧x.least<=x.most∧x.most<=1000
theorem SmF.fit{l:List Sn}(h:SmF l):FitL l:=fun x hx=>by have:=h.sm x hx;omega
theorem SmF.fix{l:List Sn}(h:SmF l)(i:Nat){k:Int}(h0:0<=k)(h1:k<=1000):SmF (kQ l i k):=⟨fun y hy=>by
 unfold kQ at hy;split at hy
 ·next x hx =>
  rcases List.mem_or_eq_of_mem_set hy with hy|rfl
  ·exact h.sm y hy
  ·exact⟨h0,Int.le_refl _,h1⟩
 ·exact h.sm y hy⟩
theorem SmF.fitB{l:List Sn}(h:SmF l){c:List Nat}(hc:∀x∈c,x<l.length)(hn:c.length<=1000):fitB l c=true:=dL.2 ⟨fun x hx=>by have:=h.sm x hx;omega,hc,hn⟩
theorem BV{n:Nt}{l:List Sn}(h:du n l=true):SmF l:=by
 have hs:kK 0 l=true:=by unfold du at h;simp only[Bool.and_eq_true]at h;exact h.1.2
 exact⟨fun x hx=>by have:=sH hs x hx;omega⟩
theorem kl(n:Nt)(l:List Sn)(c:List Nat)(i m:Nat)(k:Int):j7 n l c i (m+1) k=if lE n (kQ l i k) c=true then k else j7 n l c i m (k+1):=rfl
theorem qV(n:Nt)(l:List Sn)(c:List Nat)(i:Nat):∀m k,k<=j7 n l c i m k∧j7 n l c i m k<=k+m
 |0,k=>⟨Int.le_refl _,by show k<=_;omega⟩
 |m+1,k=>by
  rw[kl];split
  ·omega
  ·have:=qV n l c i m (k+1)
   omega
def Nt.win(n:Nt)(a b:Int):Nt:={ n with w0:=(a,b) }
end Go.Pv
