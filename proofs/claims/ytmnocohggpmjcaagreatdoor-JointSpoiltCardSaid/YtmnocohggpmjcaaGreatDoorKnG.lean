/- known(): the law's examples hold. -/
import Derived.Test.YtmnocohggpmjcaaGreatDoorKnA
import Derived.Test.YtmnocohggpmjcaaGreatDoorKnB
import Derived.Test.YtmnocohggpmjcaaGreatDoorKnC
import Derived.Test.YtmnocohggpmjcaaGreatDoorKnD
import Derived.Test.YtmnocohggpmjcaaGreatDoorKnE
import Derived.Test.YtmnocohggpmjcaaGreatDoorKnF
set_option linter.all false
namespace Go.Pv
open Go Go.RowKit Go.Proofs
set_option maxRecDepth 100000
set_option maxHeartbeats 40000000
def zEq : Z → Z → Bool
  | .n, .n => true
  | .f, .f => true
  | .a, .a => true
  | _, _ => false
mutual
def PV.eqB : PV → PV → Bool
  | .int .i64 n, .int .i64 m => decide (n = m)
  | .str a, .str b => decide (a = b)
  | .agg a, .agg b => eqBL a b
  | .sl z a, .sl y b => zEq z y && eqBL a b
  | _, _ => false
def eqBL : List PV → List PV → Bool
  | [], [] => true
  | a :: r, b :: q => a.eqB b && eqBL r q
  | _, _ => false
end
theorem zEq_eq {a b : Z} (h : zEq a b = true) : a = b := by cases a <;> cases b <;> first | rfl | cases h
mutual
theorem eqB_eq : ∀ (a b : PV), a.eqB b = true → a = b
  | .int k n, b, h => by
    cases k <;> cases b <;> first | (cases h; done) | skip
    rename_i k' m
    cases k' <;> first | (cases h; done) | skip
    have h' : decide (n = m) = true := h
    simp at h'; rw [h']
  | .str s, b, h => by
    cases b <;> first | (cases h; done) | skip
    rename_i t
    have h' : decide (s = t) = true := h
    simp at h'; rw [h']
  | .agg s, b, h => by
    cases b <;> first | (cases h; done) | skip
    rename_i t
    have h' : eqBL s t = true := h
    rw [eqBL_eq s t h']
  | .sl z s, b, h => by
    cases b <;> first | (cases h; done) | skip
    rename_i y t
    have h' : (zEq z y && eqBL s t) = true := h
    rw [Bool.and_eq_true] at h'
    rw [zEq_eq h'.1, eqBL_eq s t h'.2]
  | .bool _, b, h => by cases b <;> cases h
  | .nilp, b, h => by cases b <;> cases h
  | .nilm, b, h => by cases b <;> cases h
  | .nilf, b, h => by cases b <;> cases h
  | .nili, b, h => by cases b <;> cases h
  | .im _ _, b, h => by cases b <;> cases h
  | .fn _ _ _, b, h => by cases b <;> cases h
  | .iface _ _, b, h => by cases b <;> cases h
  | .tuple _, b, h => by cases b <;> cases h
  | .ip _, b, h => by cases b <;> cases h
  | .ms _ _, b, h => by cases b <;> cases h
  | .mp _, b, h => by cases b <;> cases h
  | .bp _ _, b, h => by cases b <;> cases h
  | .rp _ _ _ _, b, h => by cases b <;> cases h
  | .yl _, b, h => by cases b <;> cases h
theorem eqBL_eq : ∀ (a b : List PV), eqBL a b = true → a = b
  | [], b, h => by cases b <;> first | rfl | cases h
  | x :: a, b, h => by
    cases b <;> first | (cases h; done) | skip
    rename_i y b
    have h' : (x.eqB y && eqBL a b) = true := h
    rw [Bool.and_eq_true] at h'
    rw [eqB_eq x y h'.1, eqBL_eq a b h'.2]
end
/-- One call, at these arguments alone. -/
def con1 (args : List PV) (v : PV) : List PV → List Box → Option (PRes × List Box) := fun a sg => if eqBL a args = true then some (.ret v, sg) else none
theorem con1_ok {f : FuncId} {args : List PV} {v : PV} (h : Enters Tryz.prog f ∧ CallOk Tryz.prog f args [] (.ret v) []) (hc : ltBL 0 args = true) : ConOk Tryz.prog f (con1 args v) := ConOk.of0 h.1 fun a sg r sg' e => by
  unfold con1 at e
  split at e <;> cases e
  rename_i he
  obtain rfl := eqBL_eq _ _ he
  exact ⟨_, rfl, rfl, hc, h.2⟩
def cfN : CallF := cfAdd (cfAdd (cfAdd (cfAdd (cfAdd (cfAdd (cfAdd (cfAdd (cfAdd (cfAdd (cfAdd cfK
  35 (conFrz (con1 [kA, ii 1] (.tuple [.sl .a [kPl 5 15, kPl 10 17, kPl 14 7, kPl 15 (-15), kPl 15 (-5), kPl 15 15, kPl 17 (-10), kPl 19 5, kPl 21 0], ii 0]))))
  37 (conFrz (con1 [kA, ii 1, kPl 19 5] (.tuple [.sl .a [kPl 0 0, kPl 1 1, kPl 2 3], ii 0]))))
  52 (conFrz (con1 [kA, kS] (.tuple [kR (-1) 1 2, ii 10, ii 0]))))
  50 (conFrz (con1 [kA, kS] (.tuple [ii 1, ii 0]))))
  42 (conFrz (con1 [kA, kS, kP 0 0 2, kP (-1) 2 3] (.tuple [.sl .a [kPl 1 1, kPl 0 (-1), kPl 1 1, kPl 2 1], ii 0]))))
  47 (conFrz (con1 [kA, kS, kP 0 0 2, ii 1, kPl 15 (-5)] (.tuple [kR (-1) 2 2, ii 3, ii 0]))))
  53 (conFrz (con1 [kA, kP 0 1 2, ii 1] (.tuple [.sl .a [kPl 14 7, kPl 19 5, kPl 21 0], ii 0]))))
  55 (conFrz (con1 [kA, kS, kP (-1) 1 2] (.tuple [ii 2, ii 0]))))
  56 (conFrz (con1 [kA, kS, kP (-1) 1 2] (.tuple [kR (-1) 0 2, ii 0]))))
  60 (conFrz (con1 [kA, kS, .sl .f [kP (-1) 1 2, kP 0 1 2]] (.tuple [.sl .a [ii 1], ii 0]))))
  76 (con1 [kT] (.tuple [.agg [ii 2, .sl .a [encLb ⟨-1, 3, -1, 1, 0⟩]], ii 0]))
theorem cfN_ok : CallFOk Tryz.prog cfN :=
  cfAdd_ok (cfAdd_ok (cfAdd_ok (cfAdd_ok (cfAdd_ok (cfAdd_ok (cfAdd_ok (cfAdd_ok (cfAdd_ok (cfAdd_ok (cfAdd_ok cfK_ok (con1_ok (kcall _ k35) rfl).frz) (con1_ok (kcall _ k37) rfl).frz) (con1_ok (kcall _ k52) rfl).frz) (con1_ok (kcall _ k50) rfl).frz) (con1_ok (kcall _ k42) rfl).frz) (con1_ok (kcall _ k47) rfl).frz) (con1_ok (kcall _ k53) rfl).frz) (con1_ok (kcall _ k55) rfl).frz) (con1_ok (kcall _ k56) rfl).frz) (con1_ok (kcall _ k60) rfl).frz) (con1_ok (kcall _ k76) rfl)
def primN : CallF → FuncId → List PV → List Box → Option (Option (PRes × List Box)) := fun _ f args sg => match cfN f args sg with
  | some r => some (some r)
  | none => none
theorem primN_ok : PrimOk Tryz.prog primN := fun cf _ f args sg r sg' h => by
  unfold primN at h
  split at h <;> cases h
  exact cfN_ok _ _ _ _ _ ‹_›
theorem known_29 : Enters Tryz.prog 29 ∧ CallOk Tryz.prog 29 [] [] (.ret (.bool true)) [] := by
  have h : evX Tryz.prog meJ TT primN pcU 300 (.call 29 [] []) = some (.call (.ret (.bool true)) []) := by kernel_rfl
  have := evX_call hTT meJ_ok mixed named primN_ok pcU_ok h
  exact ⟨this.1, this.2.1⟩
end Go.Pv
