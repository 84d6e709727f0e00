import Derived.Test.YtmebonambbhehaaGreatQgPlays
import Derived.Test.YtmebonambbhehaaGreatQkgAz
import Derived.Test.YtmebonambbhehaaGreatQkgBz
import Derived.Test.YtmebonambbhehaaGreatQkgFz
set_option linter.all false
open Go.Proofs.Tryz
namespace Go.Pv
open Go Go.RowKit Go.Proofs
set_option maxRecDepth 200000
set_option maxHeartbeats 80000000
abbrev iY:=CallF->FuncId->List PV->List Box->Option (Option (PRes×List Box))
def fE(pr:iY)(f:FuncId)(c:List PV->List Box->Option (PRes×List Box)):iY:=fun cf g args sg =>
 if g=f then(match c args sg with
  |some r=>some (some r)
  |none=>match Ad c args sg with
   |some r=>some (some r)
   |none=>none)
 else pr cf g args sg
theorem aQ{pr:iY}{f:FuncId}{c:List PV->List Box->Option (PRes×List Box)}(h:nt prog pr)(hc:dU prog f c):nt prog (fE pr f c):=fun cf hcf g args sg r sg' e=>by
 unfold fE at e;split at e
 ·rename_i hf
  subst hf;split at e
  ·rename_i h1
   cases e;exact hc _ _ _ _ h1
  ·split at e <;> cases e
   rename_i h1;exact hc.frz _ _ _ _ h1
 ·exact h cf hcf _ _ _ _ _ e
theorem dU.at{f:FuncId}{c:List PV->List Box->Option (PRes×List Box)}{a:List PV}{v:PV}(h:dU prog f c)(e:c a []=some (.ret v,[])):ab prog f a [] (.ret v) []:=(h _ _ _ _ e).2.1
theorem bT{pr:iY}(hp:nt prog pr){f:FuncId}{args:List PV}{v:PV}{k:Nat}(h:ev prog noM TT pr k (.call f args [])=some (.call (.ret v) [])):ab prog f args [] (.ret v) []:=(dC hTT cP mixed named hp h).2.1
def vS:PV:=.agg [ii 3,.sl .f (sc3 false),.sl .f rS]
def vN:PV:=.agg [ii 0,ii 60,ii 70,ii 120,ii 130,ii 180,ii 200]
def vM:PV:=.agg [ii 0,ii 60,ii 70,ii 120,ii 130,ii 210,ii 220]
def told1:List PV:=[.sl .a ([6,6,3,1,1,1,1,1].map ii),.sl .a ([5,3,2,1,1,1,1,1].map ii)]
def vTs:PV:=.agg ([ii 3,.sl .f (sc3 false),.sl .f rS]++told1)
def vTt:PV:=.agg ([ii 3,.sl .a (sc3 true),.sl .f rS]++told1)
def pls6:List (List Int):=[[0,1,2,3,4],[0,1,2,4],[0,1,3,4],[0,2,3,4],[0,2,4],[0,3,4]]
def vPl:PV:=.sl .a (pls6.map slx)
theorem kkS:ab prog 22 [] [] (.ret vS) []:=bT bu (k:=300) (by kernel_rfl)
theorem kkN:ab prog 23 [] [] (.ret vN) []:=bT bu (k:=300) (by kernel_rfl)
theorem mem1{α:Type}{p a:α}(h:p∈[a]):p=a:=Ed.1 h
theorem conL1{f:FuncId}{a:List PV}{v:PV}(he:bC prog f)(h:ab prog f a [] (.ret v) [])(hc:bD 0 a=true):dU prog f (dc [(a,v)]):=LU he (fun p hp=>by obtain rfl:=mem1 hp;exact h) (by simp only[Fv,List.all_nil,Fi];exact hc)
theorem conL2{f:FuncId}{a b:List PV}{v u:PV}(he:bC prog f)(h:ab prog f a [] (.ret v) [])(h2:ab prog f b [] (.ret u) [])(hc:bD 0 a=true)(hd:bD 0 b=true):dU prog f (dc [(a,v),(b,u)]):=LU he (fun p hp=>by
 rcases D6.1 hp with rfl|hp
 ·exact h
 ·obtain rfl:=mem1 hp;exact h2) (by simp only[Fv,List.all_nil,Fi,hc,hd])
def L87:List (List PV×PV):=[([vS],.bool true),([tT],.bool true)]
def L88:List (List PV×PV):=[([vS],vTs),([tT],vTt)]
def L89:List (List PV×PV):=[([vTs],vPl),([vTt],vPl)]
theorem L87_ok:dU prog 65 (dc L87):=conL2 (ent func65 rfl) (dU.at c87_ok (by kernel_rfl)) (dU.at c87_ok (by kernel_rfl)) (by kernel_rfl) (by kernel_rfl)
theorem L88_ok:dU prog 67 (dc L88):=conL2 (ent func67 rfl) (dU.at qG (by kernel_rfl)) (dU.at qG (by kernel_rfl)) (by kernel_rfl) (by kernel_rfl)
theorem L89_ok:dU prog 68 (dc L89):=conL2 (ent func68 rfl) (dU.at c89_ok (by kernel_rfl)) (dU.at c89_ok (by kernel_rfl)) (by kernel_rfl) (by kernel_rfl)
end Go.Pv
