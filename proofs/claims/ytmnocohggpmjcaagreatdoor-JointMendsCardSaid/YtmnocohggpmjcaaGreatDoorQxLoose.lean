/- The law JointLoose in plain terms: which lists are truths; how surely a pose is held; a proof is the first one. -/
import Derived.Test.YtmnocohggpmjcaaGreatDoorQxCard
import Derived.Test.YtmnocohggpmjcaaGreatDoorQpHands
import Derived.Test.YtmnocohggpmjcaaGreatDoorQwOrdered
import Derived.Test.YtmnocohggpmjcaaGreatDoorQoFine
import Derived.Test.YtmnocohggpmjcaaGreatDoorQuTru
set_option linter.all false
namespace Go.Pv
open Go Go.RowKit Go.Proofs
theorem sure_none {T : List (List Int)} {p : List Int → Bool} : sureI T p = 3 ↔ proofO T p = none := by
  rw [proof_none]
  unfold sureI
  constructor
  · intro h
    split at h
    · assumption
    · split at h <;> omega
  · intro h
    rw [if_pos h]
end Go.Pv
