/-
  DERIVED. GIVEN WITH THE SEED: THE CARDS: each row of YtmnocohggpmjcaaGreatDoorRows.lean that lists a variable, with what it lists TIED to the program's text (the seventh form; the later family's looks); each row that meets fmt, with fmt's text TOLD by the authors' own Lean function (tested against real Go, not proved from fmt's source: count such statements apart). THE CARD IS WHAT COUNTS. Prove the row's statement (the work); the ties are given (YtmnocohggpmjcaaGreatDoorTie.lean); close each card by the builder's one call (the guide's Derived/Test/ToyasCard.lean, 'card_holds'). Laid BY PROGRAM, IN A SANDBOX (cutbox-door.mjs). By AI agents, Wed Nov 11 2026. No macro, syntax, notation, axiom, sorry.
-/
import Derived.Test.YtmnocohggpmjcaaGreatDoorRows
import GoSem.ClaimSeven
namespace Go.Proofs.YtmnocohggpmjcaaGreatDoor
namespace Rows

/-- THE TIED CARD OF 'kelirlaw02.JointTurned'. -/
def jointTurnedCard : Claim7 := { stood := { row := jointTurnedRow, standIns := [], harness := (true, "2ab4f9e966ac3c75ece0de67bdd08bc36af31b5c9c04f15a943881bce790f99b"), looks := true }, kinds := [], alts := [], laidByText := true, laidKinds := [.data, .data, .data, .data, .pinned], laidTests := true, laidLooks := .later }
def JointTurnedCardSaid : Prop := Claim7.holds Tryz.pinned (.plain (OpenSpec.ofChange jointTurnedSpec)) jointTurnedCard

/-- THE TIED CARD OF 'kelirlaw02.JointReach'. -/
def jointReachCard : Claim7 := { stood := { row := jointReachRow, standIns := [], harness := (true, "2ab4f9e966ac3c75ece0de67bdd08bc36af31b5c9c04f15a943881bce790f99b"), looks := true }, kinds := [], alts := [], laidByText := true, laidKinds := [.data, .data, .data, .data, .pinned], laidTests := true, laidLooks := .later }
def JointReachCardSaid : Prop := Claim7.holds Tryz.pinned (.plain (OpenSpec.ofChange jointReachSpec)) jointReachCard

/-- THE TIED CARD OF 'kelirlaw02.JointKnowns'. -/
def jointKnownsCard : Claim7 := { stood := { row := jointKnownsRow, standIns := [], harness := (true, "2ab4f9e966ac3c75ece0de67bdd08bc36af31b5c9c04f15a943881bce790f99b"), looks := true }, kinds := [], alts := [], laidByText := true, laidKinds := [.data, .data, .data, .data, .pinned], laidTests := true, laidLooks := .later }
def JointKnownsCardSaid : Prop := Claim7.holds Tryz.pinned (.plain (OpenSpec.ofChange jointKnownsSpec)) jointKnownsCard

/-- THE TIED CARD OF 'kelirlaw02.JointTrue'. -/
def jointTrueCard : Claim7 := { stood := { row := jointTrueRow, standIns := [], harness := (true, "2ab4f9e966ac3c75ece0de67bdd08bc36af31b5c9c04f15a943881bce790f99b"), looks := true }, kinds := [], alts := [], laidByText := true, laidKinds := [.data, .data, .data, .data, .pinned], laidTests := true, laidLooks := .later }
def JointTrueCardSaid : Prop := Claim7.holds Tryz.pinned (.plain (OpenSpec.ofChange jointTrueSpec)) jointTrueCard

/-- THE TIED CARD OF 'kelirlaw02.JointPaths'. -/
def jointPathsCard : Claim7 := { stood := { row := jointPathsRow, standIns := [], harness := (true, "2ab4f9e966ac3c75ece0de67bdd08bc36af31b5c9c04f15a943881bce790f99b"), looks := true }, kinds := [], alts := [], laidByText := true, laidKinds := [.data, .data, .data, .data, .pinned], laidTests := true, laidLooks := .later }
def JointPathsCardSaid : Prop := Claim7.holds Tryz.pinned (.plain (OpenSpec.ofChange jointPathsSpec)) jointPathsCard

/-- THE TIED CARD OF 'kelirlaw02.JointAims'. -/
def jointAimsCard : Claim7 := { stood := { row := jointAimsRow, standIns := [], harness := (true, "2ab4f9e966ac3c75ece0de67bdd08bc36af31b5c9c04f15a943881bce790f99b"), looks := true }, kinds := [], alts := [], laidByText := true, laidKinds := [.data, .data, .data, .data, .pinned], laidTests := true, laidLooks := .later }
def JointAimsCardSaid : Prop := Claim7.holds Tryz.pinned (.plain (OpenSpec.ofChange jointAimsSpec)) jointAimsCard

/-- THE TIED CARD OF 'kelirlaw02.JointParts'. -/
def jointPartsCard : Claim7 := { stood := { row := jointPartsRow, standIns := [], harness := (true, "2ab4f9e966ac3c75ece0de67bdd08bc36af31b5c9c04f15a943881bce790f99b"), looks := true }, kinds := [], alts := [], laidByText := true, laidKinds := [.data, .data, .data, .data, .pinned], laidTests := true, laidLooks := .later }
def JointPartsCardSaid : Prop := Claim7.holds Tryz.pinned (.plain (OpenSpec.ofChange jointPartsSpec)) jointPartsCard

/-- THE TIED CARD OF 'kelirlaw02.JointApart'. -/
def jointApartCard : Claim7 := { stood := { row := jointApartRow, standIns := [], harness := (true, "2ab4f9e966ac3c75ece0de67bdd08bc36af31b5c9c04f15a943881bce790f99b"), looks := true }, kinds := [], alts := [], laidByText := true, laidKinds := [.data, .data, .data, .data, .pinned], laidTests := true, laidLooks := .later }
def JointApartCardSaid : Prop := Claim7.holds Tryz.pinned (.plain (OpenSpec.ofChange jointApartSpec)) jointApartCard

/-- THE TIED CARD OF 'kelirlaw02.JointSpreads'. -/
def jointSpreadsCard : Claim7 := { stood := { row := jointSpreadsRow, standIns := [], harness := (true, "2ab4f9e966ac3c75ece0de67bdd08bc36af31b5c9c04f15a943881bce790f99b"), looks := true }, kinds := [], alts := [], laidByText := true, laidKinds := [.data, .data, .data, .data, .pinned], laidTests := true, laidLooks := .later }
def JointSpreadsCardSaid : Prop := Claim7.holds Tryz.pinned (.plain (OpenSpec.ofChange jointSpreadsSpec)) jointSpreadsCard

/-- THE TIED CARD OF 'kelirlaw02.JointSures'. -/
def jointSuresCard : Claim7 := { stood := { row := jointSuresRow, standIns := [], harness := (true, "2ab4f9e966ac3c75ece0de67bdd08bc36af31b5c9c04f15a943881bce790f99b"), looks := true }, kinds := [], alts := [], laidByText := true, laidKinds := [.data, .data, .data, .data, .pinned], laidTests := true, laidLooks := .later }
def JointSuresCardSaid : Prop := Claim7.holds Tryz.pinned (.plain (OpenSpec.ofChange jointSuresSpec)) jointSuresCard

/-- THE TIED CARD OF 'kelirlaw02.JointMends'. -/
def jointMendsCard : Claim7 := { stood := { row := jointMendsRow, standIns := [], harness := (true, "2ab4f9e966ac3c75ece0de67bdd08bc36af31b5c9c04f15a943881bce790f99b"), looks := true }, kinds := [], alts := [], laidByText := true, laidKinds := [.data, .data, .data, .data, .pinned], laidTests := true, laidLooks := .later }
def JointMendsCardSaid : Prop := Claim7.holds Tryz.pinned (.plain (OpenSpec.ofChange jointMendsSpec)) jointMendsCard

/-- THE TIED CARD OF 'kelirlaw02.JointFewest'. -/
def jointFewestCard : Claim7 := { stood := { row := jointFewestRow, standIns := [], harness := (true, "2ab4f9e966ac3c75ece0de67bdd08bc36af31b5c9c04f15a943881bce790f99b"), looks := true }, kinds := [], alts := [], laidByText := true, laidKinds := [.data, .data, .data, .data, .pinned], laidTests := true, laidLooks := .later }
def JointFewestCardSaid : Prop := Claim7.holds Tryz.pinned (.plain (OpenSpec.ofChange jointFewestSpec)) jointFewestCard

/-- THE TIED CARD OF 'kelirlaw02.JointMore'. -/
def jointMoreCard : Claim7 := { stood := { row := jointMoreRow, standIns := [], harness := (true, "2ab4f9e966ac3c75ece0de67bdd08bc36af31b5c9c04f15a943881bce790f99b"), looks := true }, kinds := [], alts := [], laidByText := true, laidKinds := [.data, .data, .data, .data, .pinned], laidTests := true, laidLooks := .later }
def JointMoreCardSaid : Prop := Claim7.holds Tryz.pinned (.plain (OpenSpec.ofChange jointMoreSpec)) jointMoreCard

/-- THE TIED CARD OF 'kelirlaw02.JointEnds'. -/
def jointEndsCard : Claim7 := { stood := { row := jointEndsRow, standIns := [], harness := (true, "2ab4f9e966ac3c75ece0de67bdd08bc36af31b5c9c04f15a943881bce790f99b"), looks := true }, kinds := [], alts := [], laidByText := true, laidKinds := [.data, .data, .data, .data, .pinned], laidTests := true, laidLooks := .later }
def JointEndsCardSaid : Prop := Claim7.holds Tryz.pinned (.plain (OpenSpec.ofChange jointEndsSpec)) jointEndsCard

/-- THE TIED CARD OF 'kelirlaw02.JointFines'. -/
def jointFinesCard : Claim7 := { stood := { row := jointFinesRow, standIns := [], harness := (true, "2ab4f9e966ac3c75ece0de67bdd08bc36af31b5c9c04f15a943881bce790f99b"), looks := true }, kinds := [], alts := [], laidByText := true, laidKinds := [.data, .data, .data, .data, .pinned], laidTests := true, laidLooks := .later }
def JointFinesCardSaid : Prop := Claim7.holds Tryz.pinned (.plain (OpenSpec.ofChange jointFinesSpec)) jointFinesCard

/-- THE TIED CARD OF 'kelirlaw02.JointHeld'. -/
def jointHeldCard : Claim7 := { stood := { row := jointHeldRow, standIns := [], harness := (true, "2ab4f9e966ac3c75ece0de67bdd08bc36af31b5c9c04f15a943881bce790f99b"), looks := true }, kinds := [], alts := [], laidByText := true, laidKinds := [.data, .data, .data, .data, .pinned], laidTests := true, laidLooks := .later }
def JointHeldCardSaid : Prop := Claim7.holds Tryz.pinned (.plain (OpenSpec.ofChange jointHeldSpec)) jointHeldCard

/-- THE TIED CARD OF 'kelirlaw02.JointWalked'. -/
def jointWalkedCard : Claim7 := { stood := { row := jointWalkedRow, standIns := [], harness := (true, "2ab4f9e966ac3c75ece0de67bdd08bc36af31b5c9c04f15a943881bce790f99b"), looks := true }, kinds := [], alts := [], laidByText := true, laidKinds := [.data, .data, .data, .data, .pinned], laidTests := true, laidLooks := .later }
def JointWalkedCardSaid : Prop := Claim7.holds Tryz.pinned (.plain (OpenSpec.ofChange jointWalkedSpec)) jointWalkedCard

/-- THE TIED CARD OF 'kelirlaw02.JointNear'. -/
def jointNearCard : Claim7 := { stood := { row := jointNearRow, standIns := [], harness := (true, "2ab4f9e966ac3c75ece0de67bdd08bc36af31b5c9c04f15a943881bce790f99b"), looks := true }, kinds := [], alts := [], laidByText := true, laidKinds := [.data, .data, .data, .data, .pinned], laidTests := true, laidLooks := .later }
def JointNearCardSaid : Prop := Claim7.holds Tryz.pinned (.plain (OpenSpec.ofChange jointNearSpec)) jointNearCard

/-- THE TIED CARD OF 'kelirlaw02.JointLoose'. -/
def jointLooseCard : Claim7 := { stood := { row := jointLooseRow, standIns := [], harness := (true, "2ab4f9e966ac3c75ece0de67bdd08bc36af31b5c9c04f15a943881bce790f99b"), looks := true }, kinds := [], alts := [], laidByText := true, laidKinds := [.data, .data, .data, .data, .pinned], laidTests := true, laidLooks := .later }
def JointLooseCardSaid : Prop := Claim7.holds Tryz.pinned (.plain (OpenSpec.ofChange jointLooseSpec)) jointLooseCard

/-- THE TIED CARD OF 'kelirlaw02.JointPrints'. -/
def jointPrintsCard : Claim7 := { stood := { row := jointPrintsRow, standIns := [], harness := (true, "2ab4f9e966ac3c75ece0de67bdd08bc36af31b5c9c04f15a943881bce790f99b"), looks := true }, kinds := [], alts := [], laidByText := true, laidKinds := [.data, .data, .data, .data, .pinned], laidTests := true, laidLooks := .later }
def JointPrintsCardSaid : Prop := Claim7.holds Tryz.pinned (.plain (OpenSpec.ofChange jointPrintsSpec)) jointPrintsCard

/-- THE TIED CARD OF 'kelirlaw02.JointReads'. -/
def jointReadsCard : Claim7 := { stood := { row := jointReadsRow, standIns := [], harness := (true, "2ab4f9e966ac3c75ece0de67bdd08bc36af31b5c9c04f15a943881bce790f99b"), looks := true }, kinds := [], alts := [], laidByText := true, laidKinds := [.data, .data, .data, .data, .pinned], laidTests := true, laidLooks := .later }
def JointReadsCardSaid : Prop := Claim7.holds Tryz.pinned (.plain (OpenSpec.ofChange jointReadsSpec)) jointReadsCard

/-- THE TIED CARD OF 'kelirlaw02.JointSpoilt'. -/
def jointSpoiltCard : Claim7 := { stood := { row := jointSpoiltRow, standIns := [], harness := (true, "2ab4f9e966ac3c75ece0de67bdd08bc36af31b5c9c04f15a943881bce790f99b"), looks := true }, kinds := [], alts := [], laidByText := true, laidKinds := [.data, .data, .data, .data, .pinned], laidTests := true, laidLooks := .later }
def JointSpoiltCardSaid : Prop := Claim7.holds Tryz.pinned (.plain (OpenSpec.ofChange jointSpoiltSpec)) jointSpoiltCard

/-- THE SECOND FORM's CARD OF 'kelirlaw02.JointTurned'. -/
def jointTurnedUptoCard : Claim7 := { stood := { row := jointTurnedUptoRow, standIns := [], harness := (true, "2ab4f9e966ac3c75ece0de67bdd08bc36af31b5c9c04f15a943881bce790f99b"), looks := true }, kinds := [], alts := [], laidByText := true, laidKinds := [.data, .data, .data, .data, .pinned], laidTests := true, laidLooks := .later }
def JointTurnedUptoCardSaid : Prop := Claim7.holds Tryz.pinned (.plain (OpenSpec.upto jointTurnedSpec)) jointTurnedUptoCard

/-- THE SECOND FORM's CARD OF 'kelirlaw02.JointReach'. -/
def jointReachUptoCard : Claim7 := { stood := { row := jointReachUptoRow, standIns := [], harness := (true, "2ab4f9e966ac3c75ece0de67bdd08bc36af31b5c9c04f15a943881bce790f99b"), looks := true }, kinds := [], alts := [], laidByText := true, laidKinds := [.data, .data, .data, .data, .pinned], laidTests := true, laidLooks := .later }
def JointReachUptoCardSaid : Prop := Claim7.holds Tryz.pinned (.plain (OpenSpec.upto jointReachSpec)) jointReachUptoCard

/-- THE SECOND FORM's CARD OF 'kelirlaw02.JointKnowns'. -/
def jointKnownsUptoCard : Claim7 := { stood := { row := jointKnownsUptoRow, standIns := [], harness := (true, "2ab4f9e966ac3c75ece0de67bdd08bc36af31b5c9c04f15a943881bce790f99b"), looks := true }, kinds := [], alts := [], laidByText := true, laidKinds := [.data, .data, .data, .data, .pinned], laidTests := true, laidLooks := .later }
def JointKnownsUptoCardSaid : Prop := Claim7.holds Tryz.pinned (.plain (OpenSpec.upto jointKnownsSpec)) jointKnownsUptoCard

/-- THE SECOND FORM's CARD OF 'kelirlaw02.JointTrue'. -/
def jointTrueUptoCard : Claim7 := { stood := { row := jointTrueUptoRow, standIns := [], harness := (true, "2ab4f9e966ac3c75ece0de67bdd08bc36af31b5c9c04f15a943881bce790f99b"), looks := true }, kinds := [], alts := [], laidByText := true, laidKinds := [.data, .data, .data, .data, .pinned], laidTests := true, laidLooks := .later }
def JointTrueUptoCardSaid : Prop := Claim7.holds Tryz.pinned (.plain (OpenSpec.upto jointTrueSpec)) jointTrueUptoCard

/-- THE SECOND FORM's CARD OF 'kelirlaw02.JointPaths'. -/
def jointPathsUptoCard : Claim7 := { stood := { row := jointPathsUptoRow, standIns := [], harness := (true, "2ab4f9e966ac3c75ece0de67bdd08bc36af31b5c9c04f15a943881bce790f99b"), looks := true }, kinds := [], alts := [], laidByText := true, laidKinds := [.data, .data, .data, .data, .pinned], laidTests := true, laidLooks := .later }
def JointPathsUptoCardSaid : Prop := Claim7.holds Tryz.pinned (.plain (OpenSpec.upto jointPathsSpec)) jointPathsUptoCard

/-- THE SECOND FORM's CARD OF 'kelirlaw02.JointAims'. -/
def jointAimsUptoCard : Claim7 := { stood := { row := jointAimsUptoRow, standIns := [], harness := (true, "2ab4f9e966ac3c75ece0de67bdd08bc36af31b5c9c04f15a943881bce790f99b"), looks := true }, kinds := [], alts := [], laidByText := true, laidKinds := [.data, .data, .data, .data, .pinned], laidTests := true, laidLooks := .later }
def JointAimsUptoCardSaid : Prop := Claim7.holds Tryz.pinned (.plain (OpenSpec.upto jointAimsSpec)) jointAimsUptoCard

/-- THE SECOND FORM's CARD OF 'kelirlaw02.JointParts'. -/
def jointPartsUptoCard : Claim7 := { stood := { row := jointPartsUptoRow, standIns := [], harness := (true, "2ab4f9e966ac3c75ece0de67bdd08bc36af31b5c9c04f15a943881bce790f99b"), looks := true }, kinds := [], alts := [], laidByText := true, laidKinds := [.data, .data, .data, .data, .pinned], laidTests := true, laidLooks := .later }
def JointPartsUptoCardSaid : Prop := Claim7.holds Tryz.pinned (.plain (OpenSpec.upto jointPartsSpec)) jointPartsUptoCard

/-- THE SECOND FORM's CARD OF 'kelirlaw02.JointApart'. -/
def jointApartUptoCard : Claim7 := { stood := { row := jointApartUptoRow, standIns := [], harness := (true, "2ab4f9e966ac3c75ece0de67bdd08bc36af31b5c9c04f15a943881bce790f99b"), looks := true }, kinds := [], alts := [], laidByText := true, laidKinds := [.data, .data, .data, .data, .pinned], laidTests := true, laidLooks := .later }
def JointApartUptoCardSaid : Prop := Claim7.holds Tryz.pinned (.plain (OpenSpec.upto jointApartSpec)) jointApartUptoCard

/-- THE SECOND FORM's CARD OF 'kelirlaw02.JointSpreads'. -/
def jointSpreadsUptoCard : Claim7 := { stood := { row := jointSpreadsUptoRow, standIns := [], harness := (true, "2ab4f9e966ac3c75ece0de67bdd08bc36af31b5c9c04f15a943881bce790f99b"), looks := true }, kinds := [], alts := [], laidByText := true, laidKinds := [.data, .data, .data, .data, .pinned], laidTests := true, laidLooks := .later }
def JointSpreadsUptoCardSaid : Prop := Claim7.holds Tryz.pinned (.plain (OpenSpec.upto jointSpreadsSpec)) jointSpreadsUptoCard

/-- THE SECOND FORM's CARD OF 'kelirlaw02.JointSures'. -/
def jointSuresUptoCard : Claim7 := { stood := { row := jointSuresUptoRow, standIns := [], harness := (true, "2ab4f9e966ac3c75ece0de67bdd08bc36af31b5c9c04f15a943881bce790f99b"), looks := true }, kinds := [], alts := [], laidByText := true, laidKinds := [.data, .data, .data, .data, .pinned], laidTests := true, laidLooks := .later }
def JointSuresUptoCardSaid : Prop := Claim7.holds Tryz.pinned (.plain (OpenSpec.upto jointSuresSpec)) jointSuresUptoCard

/-- THE SECOND FORM's CARD OF 'kelirlaw02.JointMends'. -/
def jointMendsUptoCard : Claim7 := { stood := { row := jointMendsUptoRow, standIns := [], harness := (true, "2ab4f9e966ac3c75ece0de67bdd08bc36af31b5c9c04f15a943881bce790f99b"), looks := true }, kinds := [], alts := [], laidByText := true, laidKinds := [.data, .data, .data, .data, .pinned], laidTests := true, laidLooks := .later }
def JointMendsUptoCardSaid : Prop := Claim7.holds Tryz.pinned (.plain (OpenSpec.upto jointMendsSpec)) jointMendsUptoCard

/-- THE SECOND FORM's CARD OF 'kelirlaw02.JointFewest'. -/
def jointFewestUptoCard : Claim7 := { stood := { row := jointFewestUptoRow, standIns := [], harness := (true, "2ab4f9e966ac3c75ece0de67bdd08bc36af31b5c9c04f15a943881bce790f99b"), looks := true }, kinds := [], alts := [], laidByText := true, laidKinds := [.data, .data, .data, .data, .pinned], laidTests := true, laidLooks := .later }
def JointFewestUptoCardSaid : Prop := Claim7.holds Tryz.pinned (.plain (OpenSpec.upto jointFewestSpec)) jointFewestUptoCard

/-- THE SECOND FORM's CARD OF 'kelirlaw02.JointMore'. -/
def jointMoreUptoCard : Claim7 := { stood := { row := jointMoreUptoRow, standIns := [], harness := (true, "2ab4f9e966ac3c75ece0de67bdd08bc36af31b5c9c04f15a943881bce790f99b"), looks := true }, kinds := [], alts := [], laidByText := true, laidKinds := [.data, .data, .data, .data, .pinned], laidTests := true, laidLooks := .later }
def JointMoreUptoCardSaid : Prop := Claim7.holds Tryz.pinned (.plain (OpenSpec.upto jointMoreSpec)) jointMoreUptoCard

/-- THE SECOND FORM's CARD OF 'kelirlaw02.JointEnds'. -/
def jointEndsUptoCard : Claim7 := { stood := { row := jointEndsUptoRow, standIns := [], harness := (true, "2ab4f9e966ac3c75ece0de67bdd08bc36af31b5c9c04f15a943881bce790f99b"), looks := true }, kinds := [], alts := [], laidByText := true, laidKinds := [.data, .data, .data, .data, .pinned], laidTests := true, laidLooks := .later }
def JointEndsUptoCardSaid : Prop := Claim7.holds Tryz.pinned (.plain (OpenSpec.upto jointEndsSpec)) jointEndsUptoCard

/-- THE SECOND FORM's CARD OF 'kelirlaw02.JointFines'. -/
def jointFinesUptoCard : Claim7 := { stood := { row := jointFinesUptoRow, standIns := [], harness := (true, "2ab4f9e966ac3c75ece0de67bdd08bc36af31b5c9c04f15a943881bce790f99b"), looks := true }, kinds := [], alts := [], laidByText := true, laidKinds := [.data, .data, .data, .data, .pinned], laidTests := true, laidLooks := .later }
def JointFinesUptoCardSaid : Prop := Claim7.holds Tryz.pinned (.plain (OpenSpec.upto jointFinesSpec)) jointFinesUptoCard

/-- THE SECOND FORM's CARD OF 'kelirlaw02.JointHeld'. -/
def jointHeldUptoCard : Claim7 := { stood := { row := jointHeldUptoRow, standIns := [], harness := (true, "2ab4f9e966ac3c75ece0de67bdd08bc36af31b5c9c04f15a943881bce790f99b"), looks := true }, kinds := [], alts := [], laidByText := true, laidKinds := [.data, .data, .data, .data, .pinned], laidTests := true, laidLooks := .later }
def JointHeldUptoCardSaid : Prop := Claim7.holds Tryz.pinned (.plain (OpenSpec.upto jointHeldSpec)) jointHeldUptoCard

/-- THE SECOND FORM's CARD OF 'kelirlaw02.JointWalked'. -/
def jointWalkedUptoCard : Claim7 := { stood := { row := jointWalkedUptoRow, standIns := [], harness := (true, "2ab4f9e966ac3c75ece0de67bdd08bc36af31b5c9c04f15a943881bce790f99b"), looks := true }, kinds := [], alts := [], laidByText := true, laidKinds := [.data, .data, .data, .data, .pinned], laidTests := true, laidLooks := .later }
def JointWalkedUptoCardSaid : Prop := Claim7.holds Tryz.pinned (.plain (OpenSpec.upto jointWalkedSpec)) jointWalkedUptoCard

/-- THE SECOND FORM's CARD OF 'kelirlaw02.JointNear'. -/
def jointNearUptoCard : Claim7 := { stood := { row := jointNearUptoRow, standIns := [], harness := (true, "2ab4f9e966ac3c75ece0de67bdd08bc36af31b5c9c04f15a943881bce790f99b"), looks := true }, kinds := [], alts := [], laidByText := true, laidKinds := [.data, .data, .data, .data, .pinned], laidTests := true, laidLooks := .later }
def JointNearUptoCardSaid : Prop := Claim7.holds Tryz.pinned (.plain (OpenSpec.upto jointNearSpec)) jointNearUptoCard

/-- THE SECOND FORM's CARD OF 'kelirlaw02.JointLoose'. -/
def jointLooseUptoCard : Claim7 := { stood := { row := jointLooseUptoRow, standIns := [], harness := (true, "2ab4f9e966ac3c75ece0de67bdd08bc36af31b5c9c04f15a943881bce790f99b"), looks := true }, kinds := [], alts := [], laidByText := true, laidKinds := [.data, .data, .data, .data, .pinned], laidTests := true, laidLooks := .later }
def JointLooseUptoCardSaid : Prop := Claim7.holds Tryz.pinned (.plain (OpenSpec.upto jointLooseSpec)) jointLooseUptoCard

/-- THE SECOND FORM's CARD OF 'kelirlaw02.JointPrints'. -/
def jointPrintsUptoCard : Claim7 := { stood := { row := jointPrintsUptoRow, standIns := [], harness := (true, "2ab4f9e966ac3c75ece0de67bdd08bc36af31b5c9c04f15a943881bce790f99b"), looks := true }, kinds := [], alts := [], laidByText := true, laidKinds := [.data, .data, .data, .data, .pinned], laidTests := true, laidLooks := .later }
def JointPrintsUptoCardSaid : Prop := Claim7.holds Tryz.pinned (.plain (OpenSpec.upto jointPrintsSpec)) jointPrintsUptoCard

/-- THE SECOND FORM's CARD OF 'kelirlaw02.JointReads'. -/
def jointReadsUptoCard : Claim7 := { stood := { row := jointReadsUptoRow, standIns := [], harness := (true, "2ab4f9e966ac3c75ece0de67bdd08bc36af31b5c9c04f15a943881bce790f99b"), looks := true }, kinds := [], alts := [], laidByText := true, laidKinds := [.data, .data, .data, .data, .pinned], laidTests := true, laidLooks := .later }
def JointReadsUptoCardSaid : Prop := Claim7.holds Tryz.pinned (.plain (OpenSpec.upto jointReadsSpec)) jointReadsUptoCard

/-- THE SECOND FORM's CARD OF 'kelirlaw02.JointSpoilt'. -/
def jointSpoiltUptoCard : Claim7 := { stood := { row := jointSpoiltUptoRow, standIns := [], harness := (true, "2ab4f9e966ac3c75ece0de67bdd08bc36af31b5c9c04f15a943881bce790f99b"), looks := true }, kinds := [], alts := [], laidByText := true, laidKinds := [.data, .data, .data, .data, .pinned], laidTests := true, laidLooks := .later }
def JointSpoiltUptoCardSaid : Prop := Claim7.holds Tryz.pinned (.plain (OpenSpec.upto jointSpoiltSpec)) jointSpoiltUptoCard
end Rows
end Go.Proofs.YtmnocohggpmjcaaGreatDoor
