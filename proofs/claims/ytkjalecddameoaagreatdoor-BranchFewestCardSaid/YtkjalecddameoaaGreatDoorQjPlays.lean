import Derived.Test.YtkjalecddameoaaGreatDoorQmVerd
import Derived.Test.YtkjalecddameoaaGreatDoorQiRef
set_option linter.all false
open Go.Proofs.Tryz
namespace Go.Pv
open Go Go.RowKit Go.Proofs
set_option maxRecDepth 100000
def uv:TS:=.st [eu,eu]
def ntTS:TS:=.st [eu,.st [uv,uv],uv]
theorem yL{cs:List PV}(h:uv.shp cs):∃x:Int×Int,cs=[ii x.1,ii x.2]:=by
 obtain⟨a,r1,e1,ha,hr1⟩:=(show ∃a b,cs=a++b∧eu.shp a∧no [eu] b from h)
 obtain⟨b,r2,e2,hb,hr2⟩:=(show ∃a b,r1=a++b∧eu.shp a∧no [] b from hr1)
 obtain rfl:r2=[]:=hr2;obtain⟨x,rfl⟩:=gm ha;obtain⟨y,rfl⟩:=gm hb;subst e2;exact⟨(x,y),e1⟩
theorem nt_of{v:PV}(h:ntTS.shp v.cells∧v.ag=true):∃n:Nt,v=.agg (ntC n):=by
 obtain⟨a,r1,e1,ha,hr1⟩:=(show ∃a b,v.cells=a++b∧eu.shp a∧no [.st [uv,uv],uv] b from h.1)
 obtain⟨b,r2,e2,hb,hr2⟩:=(show ∃a b,r1=a++b∧no [uv,uv] a∧no [uv] b from hr1)
 obtain⟨c,r3,e3,hc,hr3⟩:=(show ∃a b,r2=a++b∧uv.shp a∧no [] b from hr2)
 obtain rfl:r3=[]:=hr3;obtain⟨d,q1,f1,hd,hq1⟩:=(show ∃x y,b=x++y∧uv.shp x∧no [uv] y from hb)
 obtain⟨e,q2,f2,he,hq2⟩:=(show ∃x y,q1=x++y∧uv.shp x∧no [] y from hq1)
 obtain rfl:q2=[]:=hq2;obtain⟨m,rfl⟩:=gm ha;obtain⟨x,rfl⟩:=yL hd;obtain⟨y,rfl⟩:=yL he;obtain⟨z,rfl⟩:=yL hc;subst f2;subst f1;subst e3;subst e2;exact⟨⟨m,x,y,z⟩,tU e1 h.2⟩
set_option maxRecDepth 200000
set_option maxHeartbeats 8000000
def C8:CallF:=aE (aE (aE (aE (aE (aE (aE cf0 19 c19) 21 c21) 56 c56) 23 c23) 20 c20) 31 c31) 40 cSls
theorem cfLa_ok(hk:al prog 21 c21):CallFOk prog C8:=ah (ah (ah (ah (ah (ah (ah aa c19_ok) hk) c56_ok) c23_ok) c20_ok) c31_ok) Cx
def C7:CallF:=aE (aE (aE (aE (aE (aE (aE (aE (aE C8 30 c30) 24 c24) 25 c25) 26 c26) 33 c33) 32 cSw) 34 c34) 35 c35) 36 c36
theorem cfLb_ok(hk:al prog 21 c21):CallFOk prog C7:=ah (ah (ah (ah (ah (ah (ah (ah (ah (cfLa_ok hk) c30_ok) c24_ok) c25_ok) c26_ok) c33_ok) c32_ok) c34_ok) c35_ok) c36_ok
def C9:CallF:=aE C7 29 yD
theorem JV(hk:al prog 21 c21):CallFOk prog C9:=ah (cfLb_ok hk) sA
end Go.Pv
