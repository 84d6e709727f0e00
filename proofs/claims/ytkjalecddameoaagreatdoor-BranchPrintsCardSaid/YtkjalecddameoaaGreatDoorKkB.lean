/- known(): the verdicts on plays. -/
import Derived.Test.YtkjalecddameoaaGreatDoorKkA
set_option linter.all false
namespace Go.Pv
open Go Go.RowKit Go.Proofs
set_option maxRecDepth 200000
set_option maxHeartbeats 80000000
def L76:List (List PV × PV):=[([pln 180 200 [0,1,2,3,4]],.tuple [.sl .a [ii 0,ii 1,ii 2,ii 4],.sl .a [ii 40,ii 20,ii 60,ii 60],ii 0]),([pln 180 200 [0,1,2,4]],.tuple [.sl .a [ii 0,ii 1,ii 2,ii 3],.sl .a [ii 40,ii 20,ii 60,ii 60],ii 0]),([pln 180 200 [0,1,3,4]],noP),([pln 180 200 [0,2,3,4]],noP),([pln 180 200 [0,2,4]],noP),([pln 180 200 [0,3,4]],noP),([pln 210 220 [0,1,2,3,4]],noP),([pln 210 220 [0,1,2,4]],noP),([pln 210 220 [0,1,3,4]],noP),([pln 210 220 [0,2,3,4]],noP),([pln 210 220 [0,2,4]],noP),([pln 210 220 [0,3,4]],noP)]
theorem L76_ok:ConOk Tryz.prog 76 (conL L76):=conL_ok (ent Tryz.func76 rfl) (by
 intro p hp
 simp only [L76,List.mem_cons,List.not_mem_nil,or_false] at hp
 rcases hp with rfl | rfl | rfl | rfl | rfl | rfl | rfl | rfl | rfl | rfl | rfl | rfl
 ·exact pcall primGA_ok kg1
 ·exact pcall primGB_ok kg2
 ·exact pcall primG_ok kg3
 ·exact pcall primG_ok kg4
 ·exact pcall primG_ok kg5
 ·exact pcall primG_ok kg6
 ·exact pcall primG_ok kg7
 ·exact pcall primG_ok kg8
 ·exact pcall primG_ok kg9
 ·exact pcall primG_ok kg10
 ·exact pcall primG_ok kg11
 ·exact pcall primG_ok kg12) (by kernel_rfl)
def primKa:PrimT:=fun cf f args sg =>
 if f = 117 then match c117 cf args sg with
  | some r=>some (some r)
  | none=>none
 else addP (addP primG 76 (conL L76)) 111 c111 cf f args sg
theorem primKa_ok:PrimOk Tryz.prog primKa:=fun cf hcf f args sg r sg' h=>by
 unfold primKa at h
 split at h
 ·rename_i hf
  subst hf
  split at h <;> cases h
  rename_i h1
  exact c117_ok hcf _ _ _ _ h1
 ·exact addP_ok (addP_ok primG_ok L76_ok) c111_ok cf hcf _ _ _ _ _ h
def stg (s n:PV) (p:List Int):PV:=match s,n with
 | .agg a,.agg b=>.agg (a ++ b ++ [slx p])
 | _,_=>.nilp
theorem kvSN0:CallOk Tryz.prog 102 [stg vS vN [0,1,2,3,4]] [] (.ret (ii 4)) []:=pcall primKa_ok (k:=300) (by kernel_rfl)
theorem kvSN1:CallOk Tryz.prog 102 [stg vS vN [0,1,2,4]] [] (.ret (ii 4)) []:=pcall primKa_ok (k:=300) (by kernel_rfl)
theorem kvSN2:CallOk Tryz.prog 102 [stg vS vN [0,1,3,4]] [] (.ret (ii 3)) []:=pcall primKa_ok (k:=300) (by kernel_rfl)
theorem kvSN3:CallOk Tryz.prog 102 [stg vS vN [0,2,3,4]] [] (.ret (ii 3)) []:=pcall primKa_ok (k:=300) (by kernel_rfl)
theorem kvSN4:CallOk Tryz.prog 102 [stg vS vN [0,2,4]] [] (.ret (ii 3)) []:=pcall primKa_ok (k:=300) (by kernel_rfl)
theorem kvSN5:CallOk Tryz.prog 102 [stg vS vN [0,3,4]] [] (.ret (ii 3)) []:=pcall primKa_ok (k:=300) (by kernel_rfl)
theorem kvSM0:CallOk Tryz.prog 102 [stg vS vM [0,1,2,3,4]] [] (.ret (ii 3)) []:=pcall primKa_ok (k:=300) (by kernel_rfl)
theorem kvSM1:CallOk Tryz.prog 102 [stg vS vM [0,1,2,4]] [] (.ret (ii 3)) []:=pcall primKa_ok (k:=300) (by kernel_rfl)
theorem kvSM2:CallOk Tryz.prog 102 [stg vS vM [0,1,3,4]] [] (.ret (ii 3)) []:=pcall primKa_ok (k:=300) (by kernel_rfl)
theorem kvSM3:CallOk Tryz.prog 102 [stg vS vM [0,2,3,4]] [] (.ret (ii 3)) []:=pcall primKa_ok (k:=300) (by kernel_rfl)
theorem kvSM4:CallOk Tryz.prog 102 [stg vS vM [0,2,4]] [] (.ret (ii 3)) []:=pcall primKa_ok (k:=300) (by kernel_rfl)
theorem kvSM5:CallOk Tryz.prog 102 [stg vS vM [0,3,4]] [] (.ret (ii 3)) []:=pcall primKa_ok (k:=300) (by kernel_rfl)
theorem kvTN0:CallOk Tryz.prog 102 [stg tT vN [0,1,2,3,4]] [] (.ret (ii 4)) []:=pcall primKa_ok (k:=300) (by kernel_rfl)
theorem kvTN1:CallOk Tryz.prog 102 [stg tT vN [0,1,2,4]] [] (.ret (ii 4)) []:=pcall primKa_ok (k:=300) (by kernel_rfl)
theorem kvTN2:CallOk Tryz.prog 102 [stg tT vN [0,1,3,4]] [] (.ret (ii 1)) []:=pcall primKa_ok (k:=300) (by kernel_rfl)
theorem kvTN3:CallOk Tryz.prog 102 [stg tT vN [0,2,3,4]] [] (.ret (ii 3)) []:=pcall primKa_ok (k:=300) (by kernel_rfl)
theorem kvTN4:CallOk Tryz.prog 102 [stg tT vN [0,2,4]] [] (.ret (ii 3)) []:=pcall primKa_ok (k:=300) (by kernel_rfl)
theorem kvTN5:CallOk Tryz.prog 102 [stg tT vN [0,3,4]] [] (.ret (ii 1)) []:=pcall primKa_ok (k:=300) (by kernel_rfl)
def L102:List (List PV × PV):=[([stg vS vN [0,1,2,3,4]],ii 4),([stg vS vN [0,1,2,4]],ii 4),([stg vS vN [0,1,3,4]],ii 3),([stg vS vN [0,2,3,4]],ii 3),([stg vS vN [0,2,4]],ii 3),([stg vS vN [0,3,4]],ii 3),([stg vS vM [0,1,2,3,4]],ii 3),([stg vS vM [0,1,2,4]],ii 3),([stg vS vM [0,1,3,4]],ii 3),([stg vS vM [0,2,3,4]],ii 3),([stg vS vM [0,2,4]],ii 3),([stg vS vM [0,3,4]],ii 3),([stg tT vN [0,1,2,3,4]],ii 4),([stg tT vN [0,1,2,4]],ii 4),([stg tT vN [0,1,3,4]],ii 1),([stg tT vN [0,2,3,4]],ii 3),([stg tT vN [0,2,4]],ii 3),([stg tT vN [0,3,4]],ii 1)]
theorem L102_ok:ConOk Tryz.prog 102 (conL L102):=conL_ok (ent Tryz.func102 rfl) (by
 intro p hp
 simp only [L102,List.mem_cons,List.not_mem_nil,or_false] at hp
 rcases hp with rfl | rfl | rfl | rfl | rfl | rfl | rfl | rfl | rfl | rfl | rfl | rfl | rfl | rfl | rfl | rfl | rfl | rfl
 ·exact kvSN0
 ·exact kvSN1
 ·exact kvSN2
 ·exact kvSN3
 ·exact kvSN4
 ·exact kvSN5
 ·exact kvSM0
 ·exact kvSM1
 ·exact kvSM2
 ·exact kvSM3
 ·exact kvSM4
 ·exact kvSM5
 ·exact kvTN0
 ·exact kvTN1
 ·exact kvTN2
 ·exact kvTN3
 ·exact kvTN4
 ·exact kvTN5) (by kernel_rfl)
end Go.Pv
