/-
  DERIVED. GIVEN WITH THE SEED: THE CARDS: each row of YtkjalecddameoaaGreatDoorRows.lean that lists a variable, with what it lists TIED to the program's text (the seventh form; the later family's looks); each row that meets fmt, with fmt's text TOLD by the authors' own Lean function (tested against real Go, not proved from fmt's source: count such statements apart). THE CARD IS WHAT COUNTS. Prove the row's statement (the work); the ties are given (YtkjalecddameoaaGreatDoorTie.lean); close each card by the builder's one call (the guide's Derived/Test/ToyasCard.lean, 'card_holds'). Laid BY PROGRAM, IN A SANDBOX (cutbox-door.mjs). By AI agents, Wed Nov 11 2026. No macro, syntax, notation, axiom, sorry.
-/
import Derived.Test.YtkjalecddameoaaGreatDoorRows
import GoSem.ClaimSeven
namespace Go.Proofs.YtkjalecddameoaaGreatDoor
namespace Rows

/-- THE TIED CARD OF 'kelirlaw09.BranchDerived'. -/
def branchDerivedCard : Claim7 := { stood := { row := branchDerivedRow, standIns := [], harness := (true, "e2cdac6cbfd65e7accb0a425eebd3ce2db0511a20d4eb8676fad3249ad37c305"), looks := true }, kinds := [], alts := [], laidByText := true, laidKinds := [.data, .data, .data, .data, .pinned], laidTests := true, laidLooks := .later }
def BranchDerivedCardSaid : Prop := Claim7.holds Tryz.pinned (.plain (OpenSpec.ofChange branchDerivedSpec)) branchDerivedCard

/-- THE TIED CARD OF 'kelirlaw09.BranchWays'. -/
def branchWaysCard : Claim7 := { stood := { row := branchWaysRow, standIns := [], harness := (true, "e2cdac6cbfd65e7accb0a425eebd3ce2db0511a20d4eb8676fad3249ad37c305"), looks := true }, kinds := [], alts := [], laidByText := true, laidKinds := [.data, .data, .data, .data, .pinned], laidTests := true, laidLooks := .later }
def BranchWaysCardSaid : Prop := Claim7.holds Tryz.pinned (.plain (OpenSpec.ofChange branchWaysSpec)) branchWaysCard

/-- THE TIED CARD OF 'kelirlaw09.BranchListed'. -/
def branchListedCard : Claim7 := { stood := { row := branchListedRow, standIns := [], harness := (true, "e2cdac6cbfd65e7accb0a425eebd3ce2db0511a20d4eb8676fad3249ad37c305"), looks := true }, kinds := [], alts := [], laidByText := true, laidKinds := [.data, .data, .data, .data, .pinned], laidTests := true, laidLooks := .later }
def BranchListedCardSaid : Prop := Claim7.holds Tryz.pinned (.plain (OpenSpec.ofChange branchListedSpec)) branchListedCard

/-- THE TIED CARD OF 'kelirlaw09.BranchFollows'. -/
def branchFollowsCard : Claim7 := { stood := { row := branchFollowsRow, standIns := [], harness := (true, "e2cdac6cbfd65e7accb0a425eebd3ce2db0511a20d4eb8676fad3249ad37c305"), looks := true }, kinds := [], alts := [], laidByText := true, laidKinds := [.data, .data, .data, .data, .pinned], laidTests := true, laidLooks := .later }
def BranchFollowsCardSaid : Prop := Claim7.holds Tryz.pinned (.plain (OpenSpec.ofChange branchFollowsSpec)) branchFollowsCard

/-- THE TIED CARD OF 'kelirlaw09.BranchRecalled'. -/
def branchRecalledCard : Claim7 := { stood := { row := branchRecalledRow, standIns := [], harness := (true, "e2cdac6cbfd65e7accb0a425eebd3ce2db0511a20d4eb8676fad3249ad37c305"), looks := true }, kinds := [], alts := [], laidByText := true, laidKinds := [.data, .data, .data, .data, .pinned], laidTests := true, laidLooks := .later }
def BranchRecalledCardSaid : Prop := Claim7.holds Tryz.pinned (.plain (OpenSpec.ofChange branchRecalledSpec)) branchRecalledCard

/-- THE TIED CARD OF 'kelirlaw09.BranchVerdicts'. -/
def branchVerdictsCard : Claim7 := { stood := { row := branchVerdictsRow, standIns := [], harness := (true, "e2cdac6cbfd65e7accb0a425eebd3ce2db0511a20d4eb8676fad3249ad37c305"), looks := true }, kinds := [], alts := [], laidByText := true, laidKinds := [.data, .data, .data, .data, .pinned], laidTests := true, laidLooks := .later }
def BranchVerdictsCardSaid : Prop := Claim7.holds Tryz.pinned (.plain (OpenSpec.ofChange branchVerdictsSpec)) branchVerdictsCard

/-- THE TIED CARD OF 'kelirlaw09.BranchNeeds'. -/
def branchNeedsCard : Claim7 := { stood := { row := branchNeedsRow, standIns := [], harness := (true, "e2cdac6cbfd65e7accb0a425eebd3ce2db0511a20d4eb8676fad3249ad37c305"), looks := true }, kinds := [], alts := [], laidByText := true, laidKinds := [.data, .data, .data, .data, .pinned], laidTests := true, laidLooks := .later }
def BranchNeedsCardSaid : Prop := Claim7.holds Tryz.pinned (.plain (OpenSpec.ofChange branchNeedsSpec)) branchNeedsCard

/-- THE TIED CARD OF 'kelirlaw09.BranchFewest'. -/
def branchFewestCard : Claim7 := { stood := { row := branchFewestRow, standIns := [], harness := (true, "e2cdac6cbfd65e7accb0a425eebd3ce2db0511a20d4eb8676fad3249ad37c305"), looks := true }, kinds := [], alts := [], laidByText := true, laidKinds := [.data, .data, .data, .data, .pinned], laidTests := true, laidLooks := .later }
def BranchFewestCardSaid : Prop := Claim7.holds Tryz.pinned (.plain (OpenSpec.ofChange branchFewestSpec)) branchFewestCard

/-- THE TIED CARD OF 'kelirlaw09.BranchMore'. -/
def branchMoreCard : Claim7 := { stood := { row := branchMoreRow, standIns := [], harness := (true, "e2cdac6cbfd65e7accb0a425eebd3ce2db0511a20d4eb8676fad3249ad37c305"), looks := true }, kinds := [], alts := [], laidByText := true, laidKinds := [.data, .data, .data, .data, .pinned], laidTests := true, laidLooks := .later }
def BranchMoreCardSaid : Prop := Claim7.holds Tryz.pinned (.plain (OpenSpec.ofChange branchMoreSpec)) branchMoreCard

/-- THE TIED CARD OF 'kelirlaw09.BranchPlays'. -/
def branchPlaysCard : Claim7 := { stood := { row := branchPlaysRow, standIns := [], harness := (true, "e2cdac6cbfd65e7accb0a425eebd3ce2db0511a20d4eb8676fad3249ad37c305"), looks := true }, kinds := [], alts := [], laidByText := true, laidKinds := [.data, .data, .data, .data, .pinned], laidTests := true, laidLooks := .later }
def BranchPlaysCardSaid : Prop := Claim7.holds Tryz.pinned (.plain (OpenSpec.ofChange branchPlaysSpec)) branchPlaysCard

/-- THE TIED CARD OF 'kelirlaw09.BranchPrints'. -/
def branchPrintsCard : Claim7 := { stood := { row := branchPrintsRow, standIns := [], harness := (true, "e2cdac6cbfd65e7accb0a425eebd3ce2db0511a20d4eb8676fad3249ad37c305"), looks := true }, kinds := [], alts := [], laidByText := true, laidKinds := [.data, .data, .data, .data, .pinned], laidTests := true, laidLooks := .later }
def BranchPrintsCardSaid : Prop := Claim7.holds Tryz.pinned (.plain (OpenSpec.ofChange branchPrintsSpec)) branchPrintsCard

/-- THE TIED CARD OF 'kelirlaw09.BranchReads'. -/
def branchReadsCard : Claim7 := { stood := { row := branchReadsRow, standIns := [], harness := (true, "e2cdac6cbfd65e7accb0a425eebd3ce2db0511a20d4eb8676fad3249ad37c305"), looks := true }, kinds := [], alts := [], laidByText := true, laidKinds := [.data, .data, .data, .data, .pinned], laidTests := true, laidLooks := .later }
def BranchReadsCardSaid : Prop := Claim7.holds Tryz.pinned (.plain (OpenSpec.ofChange branchReadsSpec)) branchReadsCard

/-- THE TIED CARD OF 'kelirlaw09.BranchSpoilt'. -/
def branchSpoiltCard : Claim7 := { stood := { row := branchSpoiltRow, standIns := [], harness := (true, "e2cdac6cbfd65e7accb0a425eebd3ce2db0511a20d4eb8676fad3249ad37c305"), looks := true }, kinds := [], alts := [], laidByText := true, laidKinds := [.data, .data, .data, .data, .pinned], laidTests := true, laidLooks := .later }
def BranchSpoiltCardSaid : Prop := Claim7.holds Tryz.pinned (.plain (OpenSpec.ofChange branchSpoiltSpec)) branchSpoiltCard

/-- THE TIED CARD OF 'kelirlaw09.BranchProof'. -/
def branchProofCard : Claim7 := { stood := { row := branchProofRow, standIns := [], harness := (true, "e2cdac6cbfd65e7accb0a425eebd3ce2db0511a20d4eb8676fad3249ad37c305"), looks := true }, kinds := [], alts := [], laidByText := true, laidKinds := [.data, .data, .data, .data, .pinned], laidTests := true, laidLooks := .later }
def BranchProofCardSaid : Prop := Claim7.holds Tryz.pinned (.plain (OpenSpec.ofChange branchProofSpec)) branchProofCard

/-- THE TIED CARD OF 'kelirlaw09.BranchEvenings'. -/
def branchEveningsCard : Claim7 := { stood := { row := branchEveningsRow, standIns := [], harness := (true, "e2cdac6cbfd65e7accb0a425eebd3ce2db0511a20d4eb8676fad3249ad37c305"), looks := true }, kinds := [], alts := [], laidByText := true, laidKinds := [.data, .data, .data, .data, .pinned], laidTests := true, laidLooks := .later }
def BranchEveningsCardSaid : Prop := Claim7.holds Tryz.pinned (.plain (OpenSpec.ofChange branchEveningsSpec)) branchEveningsCard

/-- THE TIED CARD OF 'kelirlaw09.BranchBegun'. -/
def branchBegunCard : Claim7 := { stood := { row := branchBegunRow, standIns := [], harness := (true, "e2cdac6cbfd65e7accb0a425eebd3ce2db0511a20d4eb8676fad3249ad37c305"), looks := true }, kinds := [], alts := [], laidByText := true, laidKinds := [.data, .data, .data, .data, .pinned], laidTests := true, laidLooks := .later }
def BranchBegunCardSaid : Prop := Claim7.holds Tryz.pinned (.plain (OpenSpec.ofChange branchBegunSpec)) branchBegunCard

/-- THE SECOND FORM's CARD OF 'kelirlaw09.BranchDerived'. -/
def branchDerivedUptoCard : Claim7 := { stood := { row := branchDerivedUptoRow, standIns := [], harness := (true, "e2cdac6cbfd65e7accb0a425eebd3ce2db0511a20d4eb8676fad3249ad37c305"), looks := true }, kinds := [], alts := [], laidByText := true, laidKinds := [.data, .data, .data, .data, .pinned], laidTests := true, laidLooks := .later }
def BranchDerivedUptoCardSaid : Prop := Claim7.holds Tryz.pinned (.plain (OpenSpec.upto branchDerivedSpec)) branchDerivedUptoCard

/-- THE SECOND FORM's CARD OF 'kelirlaw09.BranchWays'. -/
def branchWaysUptoCard : Claim7 := { stood := { row := branchWaysUptoRow, standIns := [], harness := (true, "e2cdac6cbfd65e7accb0a425eebd3ce2db0511a20d4eb8676fad3249ad37c305"), looks := true }, kinds := [], alts := [], laidByText := true, laidKinds := [.data, .data, .data, .data, .pinned], laidTests := true, laidLooks := .later }
def BranchWaysUptoCardSaid : Prop := Claim7.holds Tryz.pinned (.plain (OpenSpec.upto branchWaysSpec)) branchWaysUptoCard

/-- THE SECOND FORM's CARD OF 'kelirlaw09.BranchListed'. -/
def branchListedUptoCard : Claim7 := { stood := { row := branchListedUptoRow, standIns := [], harness := (true, "e2cdac6cbfd65e7accb0a425eebd3ce2db0511a20d4eb8676fad3249ad37c305"), looks := true }, kinds := [], alts := [], laidByText := true, laidKinds := [.data, .data, .data, .data, .pinned], laidTests := true, laidLooks := .later }
def BranchListedUptoCardSaid : Prop := Claim7.holds Tryz.pinned (.plain (OpenSpec.upto branchListedSpec)) branchListedUptoCard

/-- THE SECOND FORM's CARD OF 'kelirlaw09.BranchFollows'. -/
def branchFollowsUptoCard : Claim7 := { stood := { row := branchFollowsUptoRow, standIns := [], harness := (true, "e2cdac6cbfd65e7accb0a425eebd3ce2db0511a20d4eb8676fad3249ad37c305"), looks := true }, kinds := [], alts := [], laidByText := true, laidKinds := [.data, .data, .data, .data, .pinned], laidTests := true, laidLooks := .later }
def BranchFollowsUptoCardSaid : Prop := Claim7.holds Tryz.pinned (.plain (OpenSpec.upto branchFollowsSpec)) branchFollowsUptoCard

/-- THE SECOND FORM's CARD OF 'kelirlaw09.BranchRecalled'. -/
def branchRecalledUptoCard : Claim7 := { stood := { row := branchRecalledUptoRow, standIns := [], harness := (true, "e2cdac6cbfd65e7accb0a425eebd3ce2db0511a20d4eb8676fad3249ad37c305"), looks := true }, kinds := [], alts := [], laidByText := true, laidKinds := [.data, .data, .data, .data, .pinned], laidTests := true, laidLooks := .later }
def BranchRecalledUptoCardSaid : Prop := Claim7.holds Tryz.pinned (.plain (OpenSpec.upto branchRecalledSpec)) branchRecalledUptoCard

/-- THE SECOND FORM's CARD OF 'kelirlaw09.BranchVerdicts'. -/
def branchVerdictsUptoCard : Claim7 := { stood := { row := branchVerdictsUptoRow, standIns := [], harness := (true, "e2cdac6cbfd65e7accb0a425eebd3ce2db0511a20d4eb8676fad3249ad37c305"), looks := true }, kinds := [], alts := [], laidByText := true, laidKinds := [.data, .data, .data, .data, .pinned], laidTests := true, laidLooks := .later }
def BranchVerdictsUptoCardSaid : Prop := Claim7.holds Tryz.pinned (.plain (OpenSpec.upto branchVerdictsSpec)) branchVerdictsUptoCard

/-- THE SECOND FORM's CARD OF 'kelirlaw09.BranchNeeds'. -/
def branchNeedsUptoCard : Claim7 := { stood := { row := branchNeedsUptoRow, standIns := [], harness := (true, "e2cdac6cbfd65e7accb0a425eebd3ce2db0511a20d4eb8676fad3249ad37c305"), looks := true }, kinds := [], alts := [], laidByText := true, laidKinds := [.data, .data, .data, .data, .pinned], laidTests := true, laidLooks := .later }
def BranchNeedsUptoCardSaid : Prop := Claim7.holds Tryz.pinned (.plain (OpenSpec.upto branchNeedsSpec)) branchNeedsUptoCard

/-- THE SECOND FORM's CARD OF 'kelirlaw09.BranchFewest'. -/
def branchFewestUptoCard : Claim7 := { stood := { row := branchFewestUptoRow, standIns := [], harness := (true, "e2cdac6cbfd65e7accb0a425eebd3ce2db0511a20d4eb8676fad3249ad37c305"), looks := true }, kinds := [], alts := [], laidByText := true, laidKinds := [.data, .data, .data, .data, .pinned], laidTests := true, laidLooks := .later }
def BranchFewestUptoCardSaid : Prop := Claim7.holds Tryz.pinned (.plain (OpenSpec.upto branchFewestSpec)) branchFewestUptoCard

/-- THE SECOND FORM's CARD OF 'kelirlaw09.BranchMore'. -/
def branchMoreUptoCard : Claim7 := { stood := { row := branchMoreUptoRow, standIns := [], harness := (true, "e2cdac6cbfd65e7accb0a425eebd3ce2db0511a20d4eb8676fad3249ad37c305"), looks := true }, kinds := [], alts := [], laidByText := true, laidKinds := [.data, .data, .data, .data, .pinned], laidTests := true, laidLooks := .later }
def BranchMoreUptoCardSaid : Prop := Claim7.holds Tryz.pinned (.plain (OpenSpec.upto branchMoreSpec)) branchMoreUptoCard

/-- THE SECOND FORM's CARD OF 'kelirlaw09.BranchPlays'. -/
def branchPlaysUptoCard : Claim7 := { stood := { row := branchPlaysUptoRow, standIns := [], harness := (true, "e2cdac6cbfd65e7accb0a425eebd3ce2db0511a20d4eb8676fad3249ad37c305"), looks := true }, kinds := [], alts := [], laidByText := true, laidKinds := [.data, .data, .data, .data, .pinned], laidTests := true, laidLooks := .later }
def BranchPlaysUptoCardSaid : Prop := Claim7.holds Tryz.pinned (.plain (OpenSpec.upto branchPlaysSpec)) branchPlaysUptoCard

/-- THE SECOND FORM's CARD OF 'kelirlaw09.BranchPrints'. -/
def branchPrintsUptoCard : Claim7 := { stood := { row := branchPrintsUptoRow, standIns := [], harness := (true, "e2cdac6cbfd65e7accb0a425eebd3ce2db0511a20d4eb8676fad3249ad37c305"), looks := true }, kinds := [], alts := [], laidByText := true, laidKinds := [.data, .data, .data, .data, .pinned], laidTests := true, laidLooks := .later }
def BranchPrintsUptoCardSaid : Prop := Claim7.holds Tryz.pinned (.plain (OpenSpec.upto branchPrintsSpec)) branchPrintsUptoCard

/-- THE SECOND FORM's CARD OF 'kelirlaw09.BranchReads'. -/
def branchReadsUptoCard : Claim7 := { stood := { row := branchReadsUptoRow, standIns := [], harness := (true, "e2cdac6cbfd65e7accb0a425eebd3ce2db0511a20d4eb8676fad3249ad37c305"), looks := true }, kinds := [], alts := [], laidByText := true, laidKinds := [.data, .data, .data, .data, .pinned], laidTests := true, laidLooks := .later }
def BranchReadsUptoCardSaid : Prop := Claim7.holds Tryz.pinned (.plain (OpenSpec.upto branchReadsSpec)) branchReadsUptoCard

/-- THE SECOND FORM's CARD OF 'kelirlaw09.BranchSpoilt'. -/
def branchSpoiltUptoCard : Claim7 := { stood := { row := branchSpoiltUptoRow, standIns := [], harness := (true, "e2cdac6cbfd65e7accb0a425eebd3ce2db0511a20d4eb8676fad3249ad37c305"), looks := true }, kinds := [], alts := [], laidByText := true, laidKinds := [.data, .data, .data, .data, .pinned], laidTests := true, laidLooks := .later }
def BranchSpoiltUptoCardSaid : Prop := Claim7.holds Tryz.pinned (.plain (OpenSpec.upto branchSpoiltSpec)) branchSpoiltUptoCard

/-- THE SECOND FORM's CARD OF 'kelirlaw09.BranchProof'. -/
def branchProofUptoCard : Claim7 := { stood := { row := branchProofUptoRow, standIns := [], harness := (true, "e2cdac6cbfd65e7accb0a425eebd3ce2db0511a20d4eb8676fad3249ad37c305"), looks := true }, kinds := [], alts := [], laidByText := true, laidKinds := [.data, .data, .data, .data, .pinned], laidTests := true, laidLooks := .later }
def BranchProofUptoCardSaid : Prop := Claim7.holds Tryz.pinned (.plain (OpenSpec.upto branchProofSpec)) branchProofUptoCard

/-- THE SECOND FORM's CARD OF 'kelirlaw09.BranchEvenings'. -/
def branchEveningsUptoCard : Claim7 := { stood := { row := branchEveningsUptoRow, standIns := [], harness := (true, "e2cdac6cbfd65e7accb0a425eebd3ce2db0511a20d4eb8676fad3249ad37c305"), looks := true }, kinds := [], alts := [], laidByText := true, laidKinds := [.data, .data, .data, .data, .pinned], laidTests := true, laidLooks := .later }
def BranchEveningsUptoCardSaid : Prop := Claim7.holds Tryz.pinned (.plain (OpenSpec.upto branchEveningsSpec)) branchEveningsUptoCard

/-- THE SECOND FORM's CARD OF 'kelirlaw09.BranchBegun'. -/
def branchBegunUptoCard : Claim7 := { stood := { row := branchBegunUptoRow, standIns := [], harness := (true, "e2cdac6cbfd65e7accb0a425eebd3ce2db0511a20d4eb8676fad3249ad37c305"), looks := true }, kinds := [], alts := [], laidByText := true, laidKinds := [.data, .data, .data, .data, .pinned], laidTests := true, laidLooks := .later }
def BranchBegunUptoCardSaid : Prop := Claim7.holds Tryz.pinned (.plain (OpenSpec.upto branchBegunSpec)) branchBegunUptoCard
end Rows
end Go.Proofs.YtkjalecddameoaaGreatDoor
