/- known(): the stories and evenings of the examples; tables. -/
import Derived.Test.YtkjalecddameoaaGreatDoorQhPr
import Derived.Test.YtkjalecddameoaaGreatDoorQgWords
import Derived.Test.YtkjalecddameoaaGreatDoorKgA
import Derived.Test.YtkjalecddameoaaGreatDoorKgB
import Derived.Test.YtkjalecddameoaaGreatDoorKgC
import Derived.Test.YtkjalecddameoaaGreatDoorKgD
import Derived.Test.YtkjalecddameoaaGreatDoorKgE
import Derived.Test.YtkjalecddameoaaGreatDoorKgF
set_option linter.all false
namespace Go.Pv
open Go Go.RowKit Go.Proofs
set_option maxRecDepth 200000
set_option maxHeartbeats 80000000
abbrev PrimT:=CallF→FuncId→List PV→List Box→Option (Option (PRes × List Box))
def addP (pr:PrimT) (f:FuncId) (c:List PV→List Box→Option (PRes × List Box)):PrimT:=fun cf g args sg =>
 if g = f then (match c args sg with
  | some r=>some (some r)
  | none=>match conFrz c args sg with
   | some r=>some (some r)
   | none=>none)
 else pr cf g args sg
theorem addP_ok {pr:PrimT} {f:FuncId} {c:List PV→List Box→Option (PRes × List Box)} (h:PrimOk Tryz.prog pr) (hc:ConOk Tryz.prog f c):PrimOk Tryz.prog (addP pr f c):=fun cf hcf g args sg r sg' e=>by
 unfold addP at e
 split at e
 ·rename_i hf
  subst hf
  split at e
  ·rename_i h1
   cases e
   exact hc _ _ _ _ h1
  ·split at e <;> cases e
   rename_i h1
   exact hc.frz _ _ _ _ h1
 ·exact h cf hcf _ _ _ _ _ e
theorem ConOk.at {f:FuncId} {c:List PV→List Box→Option (PRes × List Box)} {a:List PV} {v:PV} (h:ConOk Tryz.prog f c) (e:c a [] = some (.ret v,[])):CallOk Tryz.prog f a [] (.ret v) []:=(h _ _ _ _ e).2.1
theorem pcall {pr:PrimT} (hp:PrimOk Tryz.prog pr) {f:FuncId} {args:List PV} {v:PV} {k:Nat} (h:ev Tryz.prog noM TT pr k (.call f args []) = some (.call (.ret v) [])):CallOk Tryz.prog f args [] (.ret v) []:=(ev_call hTT noM_ok mixed named hp h).2.1
def vS:PV:=.agg [ii 3,.sl .f (sc3 false),.sl .f rS]
def vN:PV:=.agg [ii 0,ii 60,ii 70,ii 120,ii 130,ii 180,ii 200]
def vM:PV:=.agg [ii 0,ii 60,ii 70,ii 120,ii 130,ii 210,ii 220]
def told1:List PV:=[.sl .a ([6,6,3,1,1,1,1,1].map ii),.sl .a ([5,3,2,1,1,1,1,1].map ii)]
def vTs:PV:=.agg ([ii 3,.sl .f (sc3 false),.sl .f rS] ++ told1)
def vTt:PV:=.agg ([ii 3,.sl .a (sc3 true),.sl .f rS] ++ told1)
def pls6:List (List Int):=[[0,1,2,3,4],[0,1,2,4],[0,1,3,4],[0,2,3,4],[0,2,4],[0,3,4]]
def vPl:PV:=.sl .a (pls6.map slx)
theorem kkS:CallOk Tryz.prog 81 [] [] (.ret vS) []:=pcall primG_ok (k:=300) (by kernel_rfl)
theorem kkN:CallOk Tryz.prog 83 [] [] (.ret vN) []:=pcall primG_ok (k:=300) (by kernel_rfl)
theorem kkM:CallOk Tryz.prog 84 [] [] (.ret vM) []:=pcall primG_ok (k:=300) (by kernel_rfl)
theorem mem1 {α:Type} {p a:α} (h:p ∈ [a]):p = a:=List.mem_singleton.1 h
theorem conL1 {f:FuncId} {a:List PV} {v:PV} (he:Enters Tryz.prog f) (h:CallOk Tryz.prog f a [] (.ret v) []) (hc:ltBL 0 a = true):ConOk Tryz.prog f (conL [(a,v)]):=conL_ok he (fun p hp=>by obtain rfl:=mem1 hp;exact h) (by simp only [List.all_cons,List.all_nil,Bool.and_true];exact hc)
theorem conL2 {f:FuncId} {a b:List PV} {v u:PV} (he:Enters Tryz.prog f) (h:CallOk Tryz.prog f a [] (.ret v) []) (h2:CallOk Tryz.prog f b [] (.ret u) []) (hc:ltBL 0 a = true) (hd:ltBL 0 b = true):ConOk Tryz.prog f (conL [(a,v),(b,u)]):=conL_ok he (fun p hp=>by
 rcases List.mem_cons.1 hp with rfl | hp
 ·exact h
 ·obtain rfl:=mem1 hp;exact h2) (by simp only [List.all_cons,List.all_nil,Bool.and_true,hc,hd])
def L87:List (List PV × PV):=[([vS],.bool true),([tT],.bool true)]
def L88:List (List PV × PV):=[([vS],vTs),([tT],vTt)]
def L89:List (List PV × PV):=[([vTs],vPl),([vTt],vPl)]
theorem L87_ok:ConOk Tryz.prog 87 (conL L87):=conL2 (ent Tryz.func87 rfl) (ConOk.at c87_ok (by kernel_rfl)) (ConOk.at c87_ok (by kernel_rfl)) (by kernel_rfl) (by kernel_rfl)
theorem L88_ok:ConOk Tryz.prog 88 (conL L88):=conL2 (ent Tryz.func88 rfl) (ConOk.at c88_ok (by kernel_rfl)) (ConOk.at c88_ok (by kernel_rfl)) (by kernel_rfl) (by kernel_rfl)
theorem L89_ok:ConOk Tryz.prog 89 (conL L89):=conL2 (ent Tryz.func89 rfl) (ConOk.at c89_ok (by kernel_rfl)) (ConOk.at c89_ok (by kernel_rfl)) (by kernel_rfl) (by kernel_rfl)
end Go.Pv
