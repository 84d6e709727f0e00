/- The plain law of two hands: whichever hand is named first; wider fields; the first fine pose. No program in sight. -/
import Derived.Test.YtmnocohggpmjcaaGreatDoorQoFine
set_option linter.all false
namespace Go.Pv
theorem befG_irr : ∀ a : List Int, befG a a = false
  | [] => rfl
  | x :: a => by rw [befG_cc, if_pos rfl, befG_irr a]
theorem befG_asy : ∀ a b : List Int, befG a b = true → befG b a = false
  | [], [], h => by cases h
  | [], _ :: _, _ => rfl
  | _ :: _, [], h => by cases h
  | x :: a, y :: b, h => by
    rw [befG_cc] at h ⊢
    split at h
    · rename_i e
      rw [if_pos e.symm]
      exact befG_asy a b h
    · rename_i e
      have hlt := of_decide_eq_true h
      rw [if_neg (fun e2 => e e2.symm)]
      exact decide_eq_false (by omega)
end Go.Pv
