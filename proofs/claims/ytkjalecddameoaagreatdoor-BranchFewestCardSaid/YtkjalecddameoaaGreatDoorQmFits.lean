import Derived.Test.YtkjalecddameoaaGreatDoorQmPlay
set_option linter.all false
namespace Go.Pv
open Go Go.RowKit Go.Proofs
set_option maxRecDepth 200000
set_option maxHeartbeats 8000000
def CV(m:Int):Int->List Int->Bool
 |_,[]=>true
 |p,x::l=>inB x 0 (m-1)&&decide (p<x)&&CV m x l
def DE(c:List Int):Nat->Int
 |0=>-1
 |i+1=>(c[i]?).getD 0
theorem CY{c:List Int}{i:Nat}{x:Int}(h:c[i]?=some x):DE c (i+1)=x:=by
 show(c[i]?).getD 0=x
 rw[h];rfl
theorem Dy{m:Int}{c:List Int}{i:Nat}{x:Int}(h:c[i]?=some x)(p:Int):CV m p (c.drop i)=(inB x 0 (m-1)&&decide (p<x)&&CV m (DE c (i+1)) (c.drop (i+1))):=by
 rw[CY h,aP h];rfl
theorem CQ{m:Int}:∀{l:List Int} {p:Int},CV m p l=true->∀x∈l,p<x∧0<=x∧x<m
 |[],_,_,x,hx=>by cases hx
 |y::l,p,h,x,hx=>by
  have h:(inB y 0 (m-1)&&decide (p<y)&&CV m y l)=true:=h;simp only[D3,Eo]at h;have h1:=bm.1 h.1.1;rcases D6.1 hx with rfl|hx
  ·exact⟨h.1.2,h1.1,by omega⟩
  ·have:=CQ h.2 x hx
   omega
theorem C6{m:Int}:∀{l:List Int} {p:Int},CV m p l=true->(l.map Int.toNat).Pairwise (·<·)
 |[],_,_=>List.Pairwise.nil
 |y::l,p,h=>by
  have h:(inB y 0 (m-1)&&decide (p<y)&&CV m y l)=true:=h;simp only[D3,Eo]at h;have h1:=bm.1 h.1.1;refine FL.2 ⟨fun z hz=>?_,C6 h.2⟩
  obtain⟨x,hx,rfl⟩:=Ex.1 hz;have:=CQ h.2 x hx
  omega
end Go.Pv
