/- How many lists lie in spans. In plain terms. -/
import Derived.Test.YtmnocohggpmjcaaGreatDoorQmLists
import Derived.Test.YtmnocohggpmjcaaGreatDoorQyWay
import Derived.Test.YtmnocohggpmjcaaGreatDoorQpHands
import Derived.Test.YtmnocohggpmjcaaGreatDoorQtA
import Derived.Test.YtmnocohggpmjcaaGreatDoorQlTop
set_option linter.all false
namespace Go.Pv
open Go Go.RowKit Go.Proofs
def cardS : List (Int × Int) → Nat
  | [] => 1
  | x :: r => (x.2 + 1 - x.1).toNat * cardS r
theorem sum_const {α : Type} (f : α → Nat) (c : Nat) : ∀ l : List α, (∀ a ∈ l, f a = c) → (l.map f).sum = l.length * c
  | [], _ => by simp
  | a :: l, h => by
    rw [List.map_cons, List.sum_cons, h a (by simp), sum_const f c l fun x hx => h x (by simp [hx]), List.length_cons, Nat.succ_mul, Nat.add_comm]
theorem exts_card : ∀ (sp : List (Int × Int)) (now : List Int), (exts sp now).length = cardS sp
  | [], _ => rfl
  | x :: r, now => by
    show ((rng x.1 x.2).flatMap fun n => exts r (now ++ [n])).length = _
    rw [List.length_flatMap, sum_const _ (cardS r) _ fun n _ => exts_card r _]
    unfold rng
    simp [cardS]
end Go.Pv
namespace Go.Pv
open Go Go.RowKit Go.Proofs
/-- The distance; -1 for what was not met. -/
def dI (Q : Dst) (l : List Int) : Int := match dO Q l with
  | some d => d
  | none => -1
theorem dI_neg {Q : Dst} {q : List Int} : decide (dI Q q < 0) = !hasK Q q := by
  unfold dI
  cases h : dO Q q with
  | none =>
    rw [dO_none.1 h]; rfl
  | some d =>
    have : hasK Q q = true := by
      cases hh : hasK Q q with
      | true => rfl
      | false => rw [dO_none.2 hh] at h; cases h
    rw [this]
    simp
theorem dI_dG {Q : Dst} {q : List Int} (h : hasK Q q = true) : dI Q q = dG Q q := by
  unfold dI dG
  cases hd : dO Q q with
  | none => rw [dO_none.1 hd] at h; cases h
  | some d => rfl
end Go.Pv
namespace Go.Pv
open Go Go.RowKit Go.Proofs
set_option maxRecDepth 10000
set_option maxHeartbeats 4000000
theorem lT (m : Nat) (l : List (Int × Int)) : ltBL m (l.map encT) = true := ltBL_of_closed m _ (closedL_map (fun _ => rfl) l)
end Go.Pv
namespace Go.Pv
open Go Go.RowKit Go.Proofs
set_option maxRecDepth 200000
set_option maxHeartbeats 8000000
end Go.Pv
