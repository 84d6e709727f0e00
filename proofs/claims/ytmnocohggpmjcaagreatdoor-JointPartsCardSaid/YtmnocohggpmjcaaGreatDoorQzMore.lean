/- Ways in plain terms: the way has as many turns as are told; in a wider stage it is no longer; the way back is as long. -/
import Derived.Test.YtmnocohggpmjcaaGreatDoorQyRPath
import Derived.Test.YtmnocohggpmjcaaGreatDoorQpHands
set_option linter.all false
namespace Go.Pv
open Go Go.RowKit Go.Proofs
section
variable {s : Int} {ls : List Lb} {g : Stg} {b : List Int}
theorem away_startQ : ∀ i, (b, 0) ∈ awayQ s ls g b i
  | 0 => List.mem_singleton.2 rfl
  | i + 1 => by
    obtain ⟨r, hr⟩ := bfs_succ (nb := nbG s ls g) (Q0 := [(b, 0)]) i
    have e : awayQ s ls g b (i + 1) = awayQ s ls g b i ++ r := hr
    rw [e]
    exact List.mem_append_left _ (away_startQ i)
theorem away_start : (b, 0) ∈ awayG s ls g b := by unfold awayG; exact away_startQ _
theorem away_zeroQ (i : Nat) {x : List Int × Nat} (hx : x ∈ awayQ s ls g b i) (h : x.2 = 0) : x.1 = b := by
  rcases bfs_pred (nb := nbG s ls g) (f := b) i hx with h1 | ⟨_, _, _, h3⟩
  · rw [h1]
  · omega
theorem away_zero {x : List Int × Nat} (hx : x ∈ awayG s ls g b) (h : x.2 = 0) : x.1 = b := by
  unfold awayG at hx
  exact away_zeroQ _ hx h
end
section
variable {s : Int} {ls : List Lb} {g : Stg} {Q : Dst}
end
end Go.Pv
