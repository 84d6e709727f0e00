/- known() returns true. -/
import Derived.Test.YtkjalecddameoaaGreatDoorKkC
import Derived.Test.YtkjalecddameoaaGreatDoorKkD
import Derived.Test.YtkjalecddameoaaGreatDoorKkE
set_option linter.all false
namespace Go.Pv
open Go Go.RowKit Go.Proofs
set_option maxRecDepth 200000
set_option maxHeartbeats 80000000
theorem L81_ok:ConOk Tryz.prog 81 (conL [([],vS)]):=conL1 (ent Tryz.func81 rfl) kkS rfl
theorem L83_ok:ConOk Tryz.prog 83 (conL [([],vN)]):=conL1 (ent Tryz.func83 rfl) kkN rfl
theorem L84_ok:ConOk Tryz.prog 84 (conL [([],vM)]):=conL1 (ent Tryz.func84 rfl) kkM rfl
theorem L23_ok:ConOk Tryz.prog 23 (conL [([vS],r23)]):=conL1 (ent Tryz.func23 rfl) k23 (by kernel_rfl)
theorem L24_ok:ConOk Tryz.prog 24 (conL [([vS,fx [0,2,4]],r24)]):=conL1 (ent Tryz.func24 rfl) k24 (by kernel_rfl)
theorem L25_ok:ConOk Tryz.prog 25 (conL [([vS,fx [0,1,2,4]],r25)]):=conL1 (ent Tryz.func25 rfl) k25 (by kernel_rfl)
theorem L26_ok:ConOk Tryz.prog 26 (conL [([vS],r26)]):=conL1 (ent Tryz.func26 rfl) k26 (by kernel_rfl)
theorem L37_ok:ConOk Tryz.prog 37 (conL [([vS,fx [0,1]],r37)]):=conL1 (ent Tryz.func37 rfl) k37 (by kernel_rfl)
theorem L38_ok:ConOk Tryz.prog 38 (conL [([vS,fx [0,-1,4]],r38)]):=conL1 (ent Tryz.func38 rfl) k38 (by kernel_rfl)
theorem L44_ok:ConOk Tryz.prog 44 (conL [([tT,vN],r44)]):=conL1 (ent Tryz.func44 rfl) k44 (by kernel_rfl)
theorem L62_ok:ConOk Tryz.prog 62 (conL [([vS,vN],r62),([vS,vM],r62m)]):=conL2 (ent Tryz.func62 rfl) k62 k62m (by kernel_rfl) (by kernel_rfl)
theorem L45_ok:ConOk Tryz.prog 45 (conL [([vS,vN],r45)]):=conL1 (ent Tryz.func45 rfl) k45 (by kernel_rfl)
theorem L50_ok:ConOk Tryz.prog 50 (conL [([vS,vN],r50)]):=conL1 (ent Tryz.func50 rfl) k50 (by kernel_rfl)
theorem L51_ok:ConOk Tryz.prog 51 (conL [([vS,vN],r51)]):=conL1 (ent Tryz.func51 rfl) k51 (by kernel_rfl)
theorem L58_ok:ConOk Tryz.prog 58 (conL [([.str txtB],r58)]):=conL1 (ent Tryz.func58 rfl) k58 (by kernel_rfl)
theorem L59_ok:ConOk Tryz.prog 59 (conL [([vR],.str txtB)]):=conL1 (ent Tryz.func59 rfl) k59 (by kernel_rfl)
def primZ1:PrimT:=addP (addP (addP (addP (addP (addP (addP (addP primG 81 (conL [([],vS)])) 82 c82) 83 (conL [([],vN)])) 84 (conL [([],vM)])) 23 (conL [([vS],r23)])) 24 (conL [([vS,fx [0,2,4]],r24)])) 25 (conL [([vS,fx [0,1,2,4]],r25)])) 26 (conL [([vS],r26)])
theorem primZ1_ok:PrimOk Tryz.prog primZ1:=addP_ok (addP_ok (addP_ok (addP_ok (addP_ok (addP_ok (addP_ok (addP_ok primG_ok L81_ok) c82_ok) L83_ok) L84_ok) L23_ok) L24_ok) L25_ok) L26_ok
def primZ2:PrimT:=addP (addP (addP (addP (addP primZ1 37 (conL [([vS,fx [0,1]],r37)])) 38 (conL [([vS,fx [0,-1,4]],r38)])) 44 (conL [([tT,vN],r44)])) 62 (conL [([vS,vN],r62),([vS,vM],r62m)])) 45 (conL [([vS,vN],r45)])
theorem primZ2_ok:PrimOk Tryz.prog primZ2:=addP_ok (addP_ok (addP_ok (addP_ok (addP_ok primZ1_ok L37_ok) L38_ok) L44_ok) L62_ok) L45_ok
def primZ:PrimT:=addP (addP (addP (addP primZ2 50 (conL [([vS,vN],r50)])) 51 (conL [([vS,vN],r51)])) 58 (conL [([.str txtB],r58)])) 59 (conL [([vR],.str txtB)])
theorem primZ_ok:PrimOk Tryz.prog primZ:=addP_ok (addP_ok (addP_ok (addP_ok primZ2_ok L50_ok) L51_ok) L58_ok) L59_ok
theorem known_21:CallOk Tryz.prog 21 [] [] (.ret (.bool true)) []:=pcall primZ_ok (k:=300) (by kernel_rfl)
theorem c21_ok:ConOk Tryz.prog 21 c21:=ConOk.of0 (ent Tryz.func21 rfl) fun args sg r sg' h=>by
 unfold c21 at h
 split at h <;> cases h
 exact ⟨_,rfl,rfl,rfl,known_21⟩
end Go.Pv
