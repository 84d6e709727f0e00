/- How many poses and truths there are at most; the bounds of turns. In plain terms. -/
import Derived.Test.YtmnocohggpmjcaaGreatDoorQyFar
import Derived.Test.YtmnocohggpmjcaaGreatDoorQvTurns
import Derived.Test.YtmnocohggpmjcaaGreatDoorQwReach
set_option linter.all false
namespace Go.Pv
open Go Go.RowKit Go.Proofs
theorem many_card : ∀ (ls : List Lb) (i m r : Int), manyG i m ls = some r → r = m * (cardS (spansG ls) : Int)
  | [], i, m, r, h => by cases h; simp [spansG, cardS]
  | x :: ls, i, m, r, h => by
    unfold manyG at h
    split at h
    · rename_i hb
      have hb := lb_d hb
      have ih := many_card ls _ _ _ h
      have e : (((x.hi + 1 - x.lo).toNat * cardS (spansG ls) : Nat) : Int) = (x.hi - x.lo + 1) * (cardS (spansG ls) : Int) := by
        rw [Int.natCast_mul]
        congr 1
        omega
      show r = m * ((cardS ((x.lo, x.hi) :: spansG ls) : Nat) : Int)
      rw [ih]
      show _ = m * (((x.hi + 1 - x.lo).toNat * cardS (spansG ls) : Nat) : Int)
      rw [e, Int.mul_assoc]
    · cases h
theorem card_2000 {s : Int} {ls : List Lb} (hf : figB s ls = true) : cardS (spansG ls) ≤ 2000 := by
  unfold figB at hf
  cases h : manyG 0 1 ls with
  | none => rw [h] at hf; simp at hf
  | some m =>
    rw [h] at hf
    have := many_card ls _ _ _ h
    simp at hf
    omega
theorem poses_2000 {s : Int} {ls : List Lb} (hf : figB s ls = true) : (posesG ls).length ≤ 2000 := by
  unfold posesG
  rw [exts_card]
  exact card_2000 hf
/-- What the bounds say. -/
structure BndOk (ls : List Lb) (M : List (List Int)) (i : Nat) (a : Int × Int) : Prop where
  le : a.1 ≤ a.2
  lo : ∀ x, ls[i]? = some x → x.lo ≤ a.1 ∧ a.2 ≤ x.hi
  all : ∀ l ∈ M, ∀ t, l[i]? = some t → a.1 ≤ t ∧ t ≤ a.2
end Go.Pv
