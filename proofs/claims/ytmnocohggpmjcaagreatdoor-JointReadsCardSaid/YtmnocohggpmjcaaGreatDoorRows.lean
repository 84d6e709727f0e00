/-
  NARROWER THAN 'FOR EVERY INPUT', by the rows' own cells (each row's printed sentence says how): JointTurned: laid · JointReach: laid · JointKnowns: laid · JointTrue: laid · JointPaths: laid · JointAims: laid · JointParts: laid · JointApart: laid · JointSpreads: laid · JointSures: laid · JointMends: laid · JointFewest: laid · JointMore: laid · JointEnds: laid · JointFines: laid · JointHeld: laid · JointWalked: laid · JointNear: laid · JointLoose: laid · JointPrints: laid · JointReads: laid · JointSpoilt: laid.
  DERIVED. THE GIVEN ROWS OF THIS SEAT. 22 by the template 'for every input the law returns true; each argument reads behind the call as it read before'; 0 by the template 'total and deterministic' (their statements: YtmnocohggpmjcaaGreatDoorTotals.lean).
  GIVEN WITH THE SEED: the statements are not yours to turn. If you find one false, say at which input.
  Laid BY PROGRAM, IN A SANDBOX (cutbox-rows.mjs): the forced cells as the released guide's own fill.sh prints them over the translation ce9a0e86d152e349… (all of the seat's roots in one cut). By AI agents, Wed Nov 11 2026. No macro, syntax, notation, axiom, sorry.
-/
import Derived.Test.YtmnocohggpmjcaaGreatDoorChecked
import GoSem.PinnedTables
import GoSem.Claim
import GoSem.ClaimJoined
import GoSem.ClaimMapViews
import Derived.JoinedTies
import Derived.KernelRfl
namespace Go.Proofs.YtmnocohggpmjcaaGreatDoor
/- THE CELL 'sum', in the pinned program and in every row, IS THE sha256 OF THE DUMP (.gsa) THAT YtmnocohggpmjcaaGreatDoorProg.lean LOADS. Nothing in Lean hashes anything: it is a label: what it is worth is what the hold of that sum in a sandbox is worth. -/
noncomputable def Tryz.pinned : Pinned := { name := "ytmnocohggpmjcaagreatdoor", sum := "ce9a0e86d152e349c1f9a4ce78b04846b69c0a0deedc9273e46180a2b3aaab93", checked := Tryz.checked }
namespace Rows
def none {H : Type} : Left H := { results := [], args := [] }

/- WHAT THE LISTED PACKAGE-LEVEL VARIABLES READ AS WHEN THE CALL BEGINS. Each datum BY PROGRAM (the guide's laid-datum.mjs) off the statement by which the dump's own 'gosem.cut.vars' lays the variable. In a bare row this is a premise. The card (YtmnocohggpmjcaaGreatDoorCards.lean) ties it to the program's text. -/
def laid_math_bits_deBruijn32tab {H : Type} : DataW H := .agg [.lit (.int .u8 0), .lit (.int .u8 1), .lit (.int .u8 28), .lit (.int .u8 2), .lit (.int .u8 29), .lit (.int .u8 14), .lit (.int .u8 24), .lit (.int .u8 3), .lit (.int .u8 30), .lit (.int .u8 22), .lit (.int .u8 20), .lit (.int .u8 15), .lit (.int .u8 25), .lit (.int .u8 17), .lit (.int .u8 4), .lit (.int .u8 8), .lit (.int .u8 31), .lit (.int .u8 27), .lit (.int .u8 13), .lit (.int .u8 23), .lit (.int .u8 21), .lit (.int .u8 19), .lit (.int .u8 16), .lit (.int .u8 7), .lit (.int .u8 26), .lit (.int .u8 12), .lit (.int .u8 18), .lit (.int .u8 6), .lit (.int .u8 11), .lit (.int .u8 5), .lit (.int .u8 10), .lit (.int .u8 9)]
def laid_math_bits_deBruijn64tab {H : Type} : DataW H := .agg [.lit (.int .u8 0), .lit (.int .u8 1), .lit (.int .u8 56), .lit (.int .u8 2), .lit (.int .u8 57), .lit (.int .u8 49), .lit (.int .u8 28), .lit (.int .u8 3), .lit (.int .u8 61), .lit (.int .u8 58), .lit (.int .u8 42), .lit (.int .u8 50), .lit (.int .u8 38), .lit (.int .u8 29), .lit (.int .u8 17), .lit (.int .u8 4), .lit (.int .u8 62), .lit (.int .u8 47), .lit (.int .u8 59), .lit (.int .u8 36), .lit (.int .u8 45), .lit (.int .u8 43), .lit (.int .u8 51), .lit (.int .u8 22), .lit (.int .u8 53), .lit (.int .u8 39), .lit (.int .u8 33), .lit (.int .u8 30), .lit (.int .u8 24), .lit (.int .u8 18), .lit (.int .u8 12), .lit (.int .u8 5), .lit (.int .u8 63), .lit (.int .u8 55), .lit (.int .u8 48), .lit (.int .u8 27), .lit (.int .u8 60), .lit (.int .u8 41), .lit (.int .u8 37), .lit (.int .u8 16), .lit (.int .u8 46), .lit (.int .u8 35), .lit (.int .u8 44), .lit (.int .u8 21), .lit (.int .u8 52), .lit (.int .u8 32), .lit (.int .u8 23), .lit (.int .u8 11), .lit (.int .u8 54), .lit (.int .u8 26), .lit (.int .u8 40), .lit (.int .u8 15), .lit (.int .u8 34), .lit (.int .u8 20), .lit (.int .u8 31), .lit (.int .u8 10), .lit (.int .u8 25), .lit (.int .u8 14), .lit (.int .u8 19), .lit (.int .u8 9), .lit (.int .u8 13), .lit (.int .u8 8), .lit (.int .u8 7), .lit (.int .u8 6)]
def laid_internal_strconv_uint64pow10 {H : Type} : DataW H := .agg [.lit (.int .u64 1), .lit (.int .u64 10), .lit (.int .u64 100), .lit (.int .u64 1000), .lit (.int .u64 10000), .lit (.int .u64 100000), .lit (.int .u64 1000000), .lit (.int .u64 10000000), .lit (.int .u64 100000000), .lit (.int .u64 1000000000), .lit (.int .u64 10000000000), .lit (.int .u64 100000000000), .lit (.int .u64 1000000000000), .lit (.int .u64 10000000000000), .lit (.int .u64 100000000000000), .lit (.int .u64 1000000000000000), .lit (.int .u64 10000000000000000), .lit (.int .u64 100000000000000000), .lit (.int .u64 1000000000000000000), .lit (.int .u64 10000000000000000000)]
def laid_unicode_utf8_acceptRanges {H : Type} : DataW H := .agg [.agg [.lit (.int .u8 128), .lit (.int .u8 191)], .agg [.lit (.int .u8 160), .lit (.int .u8 191)], .agg [.lit (.int .u8 128), .lit (.int .u8 159)], .agg [.lit (.int .u8 144), .lit (.int .u8 191)], .agg [.lit (.int .u8 128), .lit (.int .u8 143)], .agg [.lit (.int .u8 0), .lit (.int .u8 0)], .agg [.lit (.int .u8 0), .lit (.int .u8 0)], .agg [.lit (.int .u8 0), .lit (.int .u8 0)], .agg [.lit (.int .u8 0), .lit (.int .u8 0)], .agg [.lit (.int .u8 0), .lit (.int .u8 0)], .agg [.lit (.int .u8 0), .lit (.int .u8 0)], .agg [.lit (.int .u8 0), .lit (.int .u8 0)], .agg [.lit (.int .u8 0), .lit (.int .u8 0)], .agg [.lit (.int .u8 0), .lit (.int .u8 0)], .agg [.lit (.int .u8 0), .lit (.int .u8 0)], .agg [.lit (.int .u8 0), .lit (.int .u8 0)]]
/-- One of Go's own tables, pinned by name: the form's constant. -/
def laid_unicode_utf8_first : DataW Unit := Go.Pinned.utf8First

/-- 'kelirlaw02.JointTurned': WHATEVER THE INPUT: true; the input reads as it did. -/
def jointTurnedSpec : ChangeSpec := { name := "jointTurned", fn := fun _ => fun
  | [d1, d2, d3, d4, d5] => { results := [.lit (.bool true)], args := [d1, d2, d3, d4, d5] }
  | _ => none }
def jointTurnedRow : OpenClaim := { program := "ytmnocohggpmjcaagreatdoor", sum := "ce9a0e86d152e349c1f9a4ce78b04846b69c0a0deedc9273e46180a2b3aaab93", func := "kelir/kelirlaw02.JointTurned", spec := "jointTurned", inPlace := ["internal/bytealg.CountString", "internal/bytealg.IndexByteString", "internal/bytealg.IndexString", "internal/abi.NoEscape", "internal/bytealg.MakeNoZero"], unfollowed := true, recurses := true, named := ["unicode/utf8.first", "unicode/utf8.acceptRanges", "internal/bytealg.MaxLen", "internal/strconv.uint64pow10", "math/bits.deBruijn32tab", "math/bits.deBruijn64tab"], plainKeys := false, apart := false, laid := [("math/bits.deBruijn32tab", laid_math_bits_deBruijn32tab), ("math/bits.deBruijn64tab", laid_math_bits_deBruijn64tab), ("internal/strconv.uint64pow10", laid_internal_strconv_uint64pow10), ("unicode/utf8.acceptRanges", laid_unicode_utf8_acceptRanges), ("unicode/utf8.first", laid_unicode_utf8_first)] }
def JointTurnedSaid : Prop := jointTurnedRow.holds Tryz.pinned (OpenSpec.ofChange jointTurnedSpec)

/-- ITS FALSE NEIGHBOUR: 'it returns false'. Refute it at one input. -/
def jointTurnedWrong : ChangeSpec := { name := "jointTurned", fn := fun _ => fun
  | [d1, d2, d3, d4, d5] => { results := [.lit (.bool false)], args := [d1, d2, d3, d4, d5] }
  | _ => none }
def JointTurnedWrongFalsely : Prop := jointTurnedRow.holds Tryz.pinned (OpenSpec.ofChange jointTurnedWrong)

/-- 'kelirlaw02.JointReach': WHATEVER THE INPUT: true; the input reads as it did. -/
def jointReachSpec : ChangeSpec := { name := "jointReach", fn := fun _ => fun
  | [d1, d2] => { results := [.lit (.bool true)], args := [d1, d2] }
  | _ => none }
def jointReachRow : OpenClaim := { program := "ytmnocohggpmjcaagreatdoor", sum := "ce9a0e86d152e349c1f9a4ce78b04846b69c0a0deedc9273e46180a2b3aaab93", func := "kelir/kelirlaw02.JointReach", spec := "jointReach", inPlace := ["internal/bytealg.CountString", "internal/bytealg.IndexByteString", "internal/bytealg.IndexString", "internal/abi.NoEscape", "internal/bytealg.MakeNoZero"], unfollowed := true, recurses := true, named := ["unicode/utf8.first", "unicode/utf8.acceptRanges", "internal/bytealg.MaxLen", "internal/strconv.uint64pow10", "math/bits.deBruijn32tab", "math/bits.deBruijn64tab"], plainKeys := false, apart := false, laid := [("math/bits.deBruijn32tab", laid_math_bits_deBruijn32tab), ("math/bits.deBruijn64tab", laid_math_bits_deBruijn64tab), ("internal/strconv.uint64pow10", laid_internal_strconv_uint64pow10), ("unicode/utf8.acceptRanges", laid_unicode_utf8_acceptRanges), ("unicode/utf8.first", laid_unicode_utf8_first)] }
def JointReachSaid : Prop := jointReachRow.holds Tryz.pinned (OpenSpec.ofChange jointReachSpec)

/-- ITS FALSE NEIGHBOUR: 'it returns false'. Refute it at one input. -/
def jointReachWrong : ChangeSpec := { name := "jointReach", fn := fun _ => fun
  | [d1, d2] => { results := [.lit (.bool false)], args := [d1, d2] }
  | _ => none }
def JointReachWrongFalsely : Prop := jointReachRow.holds Tryz.pinned (OpenSpec.ofChange jointReachWrong)

/-- 'kelirlaw02.JointKnowns': WHATEVER THE INPUT: true; the input reads as it did. -/
def jointKnownsSpec : ChangeSpec := { name := "jointKnowns", fn := fun _ => fun
  | [d1, d2, d3] => { results := [.lit (.bool true)], args := [d1, d2, d3] }
  | _ => none }
def jointKnownsRow : OpenClaim := { program := "ytmnocohggpmjcaagreatdoor", sum := "ce9a0e86d152e349c1f9a4ce78b04846b69c0a0deedc9273e46180a2b3aaab93", func := "kelir/kelirlaw02.JointKnowns", spec := "jointKnowns", inPlace := ["internal/bytealg.CountString", "internal/bytealg.IndexByteString", "internal/bytealg.IndexString", "internal/abi.NoEscape", "internal/bytealg.MakeNoZero"], unfollowed := true, recurses := true, named := ["unicode/utf8.first", "unicode/utf8.acceptRanges", "internal/bytealg.MaxLen", "internal/strconv.uint64pow10", "math/bits.deBruijn32tab", "math/bits.deBruijn64tab"], plainKeys := false, apart := false, laid := [("math/bits.deBruijn32tab", laid_math_bits_deBruijn32tab), ("math/bits.deBruijn64tab", laid_math_bits_deBruijn64tab), ("internal/strconv.uint64pow10", laid_internal_strconv_uint64pow10), ("unicode/utf8.acceptRanges", laid_unicode_utf8_acceptRanges), ("unicode/utf8.first", laid_unicode_utf8_first)] }
def JointKnownsSaid : Prop := jointKnownsRow.holds Tryz.pinned (OpenSpec.ofChange jointKnownsSpec)

/-- ITS FALSE NEIGHBOUR: 'it returns false'. Refute it at one input. -/
def jointKnownsWrong : ChangeSpec := { name := "jointKnowns", fn := fun _ => fun
  | [d1, d2, d3] => { results := [.lit (.bool false)], args := [d1, d2, d3] }
  | _ => none }
def JointKnownsWrongFalsely : Prop := jointKnownsRow.holds Tryz.pinned (OpenSpec.ofChange jointKnownsWrong)

/-- 'kelirlaw02.JointTrue': WHATEVER THE INPUT: true; the input reads as it did. -/
def jointTrueSpec : ChangeSpec := { name := "jointTrue", fn := fun _ => fun
  | [d1, d2, d3, d4] => { results := [.lit (.bool true)], args := [d1, d2, d3, d4] }
  | _ => none }
def jointTrueRow : OpenClaim := { program := "ytmnocohggpmjcaagreatdoor", sum := "ce9a0e86d152e349c1f9a4ce78b04846b69c0a0deedc9273e46180a2b3aaab93", func := "kelir/kelirlaw02.JointTrue", spec := "jointTrue", inPlace := ["internal/bytealg.CountString", "internal/bytealg.IndexByteString", "internal/bytealg.IndexString", "internal/abi.NoEscape", "internal/bytealg.MakeNoZero"], unfollowed := true, recurses := true, named := ["unicode/utf8.first", "unicode/utf8.acceptRanges", "internal/bytealg.MaxLen", "internal/strconv.uint64pow10", "math/bits.deBruijn32tab", "math/bits.deBruijn64tab"], plainKeys := false, apart := false, laid := [("math/bits.deBruijn32tab", laid_math_bits_deBruijn32tab), ("math/bits.deBruijn64tab", laid_math_bits_deBruijn64tab), ("internal/strconv.uint64pow10", laid_internal_strconv_uint64pow10), ("unicode/utf8.acceptRanges", laid_unicode_utf8_acceptRanges), ("unicode/utf8.first", laid_unicode_utf8_first)] }
def JointTrueSaid : Prop := jointTrueRow.holds Tryz.pinned (OpenSpec.ofChange jointTrueSpec)

/-- ITS FALSE NEIGHBOUR: 'it returns false'. Refute it at one input. -/
def jointTrueWrong : ChangeSpec := { name := "jointTrue", fn := fun _ => fun
  | [d1, d2, d3, d4] => { results := [.lit (.bool false)], args := [d1, d2, d3, d4] }
  | _ => none }
def JointTrueWrongFalsely : Prop := jointTrueRow.holds Tryz.pinned (OpenSpec.ofChange jointTrueWrong)

/-- 'kelirlaw02.JointPaths': WHATEVER THE INPUT: true; the input reads as it did. -/
def jointPathsSpec : ChangeSpec := { name := "jointPaths", fn := fun _ => fun
  | [d1, d2, d3, d4] => { results := [.lit (.bool true)], args := [d1, d2, d3, d4] }
  | _ => none }
def jointPathsRow : OpenClaim := { program := "ytmnocohggpmjcaagreatdoor", sum := "ce9a0e86d152e349c1f9a4ce78b04846b69c0a0deedc9273e46180a2b3aaab93", func := "kelir/kelirlaw02.JointPaths", spec := "jointPaths", inPlace := ["internal/bytealg.CountString", "internal/bytealg.IndexByteString", "internal/bytealg.IndexString", "internal/abi.NoEscape", "internal/bytealg.MakeNoZero"], unfollowed := true, recurses := true, named := ["unicode/utf8.first", "unicode/utf8.acceptRanges", "internal/bytealg.MaxLen", "internal/strconv.uint64pow10", "math/bits.deBruijn32tab", "math/bits.deBruijn64tab"], plainKeys := false, apart := false, laid := [("math/bits.deBruijn32tab", laid_math_bits_deBruijn32tab), ("math/bits.deBruijn64tab", laid_math_bits_deBruijn64tab), ("internal/strconv.uint64pow10", laid_internal_strconv_uint64pow10), ("unicode/utf8.acceptRanges", laid_unicode_utf8_acceptRanges), ("unicode/utf8.first", laid_unicode_utf8_first)] }
def JointPathsSaid : Prop := jointPathsRow.holds Tryz.pinned (OpenSpec.ofChange jointPathsSpec)

/-- ITS FALSE NEIGHBOUR: 'it returns false'. Refute it at one input. -/
def jointPathsWrong : ChangeSpec := { name := "jointPaths", fn := fun _ => fun
  | [d1, d2, d3, d4] => { results := [.lit (.bool false)], args := [d1, d2, d3, d4] }
  | _ => none }
def JointPathsWrongFalsely : Prop := jointPathsRow.holds Tryz.pinned (OpenSpec.ofChange jointPathsWrong)

/-- 'kelirlaw02.JointAims': WHATEVER THE INPUT: true; the input reads as it did. -/
def jointAimsSpec : ChangeSpec := { name := "jointAims", fn := fun _ => fun
  | [d1, d2, d3, d4, d5] => { results := [.lit (.bool true)], args := [d1, d2, d3, d4, d5] }
  | _ => none }
def jointAimsRow : OpenClaim := { program := "ytmnocohggpmjcaagreatdoor", sum := "ce9a0e86d152e349c1f9a4ce78b04846b69c0a0deedc9273e46180a2b3aaab93", func := "kelir/kelirlaw02.JointAims", spec := "jointAims", inPlace := ["internal/bytealg.CountString", "internal/bytealg.IndexByteString", "internal/bytealg.IndexString", "internal/abi.NoEscape", "internal/bytealg.MakeNoZero"], unfollowed := true, recurses := true, named := ["unicode/utf8.first", "unicode/utf8.acceptRanges", "internal/bytealg.MaxLen", "internal/strconv.uint64pow10", "math/bits.deBruijn32tab", "math/bits.deBruijn64tab"], plainKeys := false, apart := false, laid := [("math/bits.deBruijn32tab", laid_math_bits_deBruijn32tab), ("math/bits.deBruijn64tab", laid_math_bits_deBruijn64tab), ("internal/strconv.uint64pow10", laid_internal_strconv_uint64pow10), ("unicode/utf8.acceptRanges", laid_unicode_utf8_acceptRanges), ("unicode/utf8.first", laid_unicode_utf8_first)] }
def JointAimsSaid : Prop := jointAimsRow.holds Tryz.pinned (OpenSpec.ofChange jointAimsSpec)

/-- ITS FALSE NEIGHBOUR: 'it returns false'. Refute it at one input. -/
def jointAimsWrong : ChangeSpec := { name := "jointAims", fn := fun _ => fun
  | [d1, d2, d3, d4, d5] => { results := [.lit (.bool false)], args := [d1, d2, d3, d4, d5] }
  | _ => none }
def JointAimsWrongFalsely : Prop := jointAimsRow.holds Tryz.pinned (OpenSpec.ofChange jointAimsWrong)

/-- 'kelirlaw02.JointParts': WHATEVER THE INPUT: true; the input reads as it did. -/
def jointPartsSpec : ChangeSpec := { name := "jointParts", fn := fun _ => fun
  | [d1, d2] => { results := [.lit (.bool true)], args := [d1, d2] }
  | _ => none }
def jointPartsRow : OpenClaim := { program := "ytmnocohggpmjcaagreatdoor", sum := "ce9a0e86d152e349c1f9a4ce78b04846b69c0a0deedc9273e46180a2b3aaab93", func := "kelir/kelirlaw02.JointParts", spec := "jointParts", inPlace := ["internal/bytealg.CountString", "internal/bytealg.IndexByteString", "internal/bytealg.IndexString", "internal/abi.NoEscape", "internal/bytealg.MakeNoZero"], unfollowed := true, recurses := true, named := ["unicode/utf8.first", "unicode/utf8.acceptRanges", "internal/bytealg.MaxLen", "internal/strconv.uint64pow10", "math/bits.deBruijn32tab", "math/bits.deBruijn64tab"], plainKeys := false, apart := false, laid := [("math/bits.deBruijn32tab", laid_math_bits_deBruijn32tab), ("math/bits.deBruijn64tab", laid_math_bits_deBruijn64tab), ("internal/strconv.uint64pow10", laid_internal_strconv_uint64pow10), ("unicode/utf8.acceptRanges", laid_unicode_utf8_acceptRanges), ("unicode/utf8.first", laid_unicode_utf8_first)] }
def JointPartsSaid : Prop := jointPartsRow.holds Tryz.pinned (OpenSpec.ofChange jointPartsSpec)

/-- ITS FALSE NEIGHBOUR: 'it returns false'. Refute it at one input. -/
def jointPartsWrong : ChangeSpec := { name := "jointParts", fn := fun _ => fun
  | [d1, d2] => { results := [.lit (.bool false)], args := [d1, d2] }
  | _ => none }
def JointPartsWrongFalsely : Prop := jointPartsRow.holds Tryz.pinned (OpenSpec.ofChange jointPartsWrong)

/-- 'kelirlaw02.JointApart': WHATEVER THE INPUT: true; the input reads as it did. -/
def jointApartSpec : ChangeSpec := { name := "jointApart", fn := fun _ => fun
  | [d1, d2, d3, d4, d5] => { results := [.lit (.bool true)], args := [d1, d2, d3, d4, d5] }
  | _ => none }
def jointApartRow : OpenClaim := { program := "ytmnocohggpmjcaagreatdoor", sum := "ce9a0e86d152e349c1f9a4ce78b04846b69c0a0deedc9273e46180a2b3aaab93", func := "kelir/kelirlaw02.JointApart", spec := "jointApart", inPlace := ["internal/bytealg.CountString", "internal/bytealg.IndexByteString", "internal/bytealg.IndexString", "internal/abi.NoEscape", "internal/bytealg.MakeNoZero"], unfollowed := true, recurses := true, named := ["unicode/utf8.first", "unicode/utf8.acceptRanges", "internal/bytealg.MaxLen", "internal/strconv.uint64pow10", "math/bits.deBruijn32tab", "math/bits.deBruijn64tab"], plainKeys := false, apart := false, laid := [("math/bits.deBruijn32tab", laid_math_bits_deBruijn32tab), ("math/bits.deBruijn64tab", laid_math_bits_deBruijn64tab), ("internal/strconv.uint64pow10", laid_internal_strconv_uint64pow10), ("unicode/utf8.acceptRanges", laid_unicode_utf8_acceptRanges), ("unicode/utf8.first", laid_unicode_utf8_first)] }
def JointApartSaid : Prop := jointApartRow.holds Tryz.pinned (OpenSpec.ofChange jointApartSpec)

/-- ITS FALSE NEIGHBOUR: 'it returns false'. Refute it at one input. -/
def jointApartWrong : ChangeSpec := { name := "jointApart", fn := fun _ => fun
  | [d1, d2, d3, d4, d5] => { results := [.lit (.bool false)], args := [d1, d2, d3, d4, d5] }
  | _ => none }
def JointApartWrongFalsely : Prop := jointApartRow.holds Tryz.pinned (OpenSpec.ofChange jointApartWrong)

/-- 'kelirlaw02.JointSpreads': WHATEVER THE INPUT: true; the input reads as it did. -/
def jointSpreadsSpec : ChangeSpec := { name := "jointSpreads", fn := fun _ => fun
  | [d1, d2, d3] => { results := [.lit (.bool true)], args := [d1, d2, d3] }
  | _ => none }
def jointSpreadsRow : OpenClaim := { program := "ytmnocohggpmjcaagreatdoor", sum := "ce9a0e86d152e349c1f9a4ce78b04846b69c0a0deedc9273e46180a2b3aaab93", func := "kelir/kelirlaw02.JointSpreads", spec := "jointSpreads", inPlace := ["internal/bytealg.CountString", "internal/bytealg.IndexByteString", "internal/bytealg.IndexString", "internal/abi.NoEscape", "internal/bytealg.MakeNoZero"], unfollowed := true, recurses := true, named := ["unicode/utf8.first", "unicode/utf8.acceptRanges", "internal/bytealg.MaxLen", "internal/strconv.uint64pow10", "math/bits.deBruijn32tab", "math/bits.deBruijn64tab"], plainKeys := false, apart := false, laid := [("math/bits.deBruijn32tab", laid_math_bits_deBruijn32tab), ("math/bits.deBruijn64tab", laid_math_bits_deBruijn64tab), ("internal/strconv.uint64pow10", laid_internal_strconv_uint64pow10), ("unicode/utf8.acceptRanges", laid_unicode_utf8_acceptRanges), ("unicode/utf8.first", laid_unicode_utf8_first)] }
def JointSpreadsSaid : Prop := jointSpreadsRow.holds Tryz.pinned (OpenSpec.ofChange jointSpreadsSpec)

/-- ITS FALSE NEIGHBOUR: 'it returns false'. Refute it at one input. -/
def jointSpreadsWrong : ChangeSpec := { name := "jointSpreads", fn := fun _ => fun
  | [d1, d2, d3] => { results := [.lit (.bool false)], args := [d1, d2, d3] }
  | _ => none }
def JointSpreadsWrongFalsely : Prop := jointSpreadsRow.holds Tryz.pinned (OpenSpec.ofChange jointSpreadsWrong)

/-- 'kelirlaw02.JointSures': WHATEVER THE INPUT: true; the input reads as it did. -/
def jointSuresSpec : ChangeSpec := { name := "jointSures", fn := fun _ => fun
  | [d1, d2, d3] => { results := [.lit (.bool true)], args := [d1, d2, d3] }
  | _ => none }
def jointSuresRow : OpenClaim := { program := "ytmnocohggpmjcaagreatdoor", sum := "ce9a0e86d152e349c1f9a4ce78b04846b69c0a0deedc9273e46180a2b3aaab93", func := "kelir/kelirlaw02.JointSures", spec := "jointSures", inPlace := ["internal/bytealg.CountString", "internal/bytealg.IndexByteString", "internal/bytealg.IndexString", "internal/abi.NoEscape", "internal/bytealg.MakeNoZero"], unfollowed := true, recurses := true, named := ["unicode/utf8.first", "unicode/utf8.acceptRanges", "internal/bytealg.MaxLen", "internal/strconv.uint64pow10", "math/bits.deBruijn32tab", "math/bits.deBruijn64tab"], plainKeys := false, apart := false, laid := [("math/bits.deBruijn32tab", laid_math_bits_deBruijn32tab), ("math/bits.deBruijn64tab", laid_math_bits_deBruijn64tab), ("internal/strconv.uint64pow10", laid_internal_strconv_uint64pow10), ("unicode/utf8.acceptRanges", laid_unicode_utf8_acceptRanges), ("unicode/utf8.first", laid_unicode_utf8_first)] }
def JointSuresSaid : Prop := jointSuresRow.holds Tryz.pinned (OpenSpec.ofChange jointSuresSpec)

/-- ITS FALSE NEIGHBOUR: 'it returns false'. Refute it at one input. -/
def jointSuresWrong : ChangeSpec := { name := "jointSures", fn := fun _ => fun
  | [d1, d2, d3] => { results := [.lit (.bool false)], args := [d1, d2, d3] }
  | _ => none }
def JointSuresWrongFalsely : Prop := jointSuresRow.holds Tryz.pinned (OpenSpec.ofChange jointSuresWrong)

/-- 'kelirlaw02.JointMends': WHATEVER THE INPUT: true; the input reads as it did. -/
def jointMendsSpec : ChangeSpec := { name := "jointMends", fn := fun _ => fun
  | [d1, d2, d3] => { results := [.lit (.bool true)], args := [d1, d2, d3] }
  | _ => none }
def jointMendsRow : OpenClaim := { program := "ytmnocohggpmjcaagreatdoor", sum := "ce9a0e86d152e349c1f9a4ce78b04846b69c0a0deedc9273e46180a2b3aaab93", func := "kelir/kelirlaw02.JointMends", spec := "jointMends", inPlace := ["internal/bytealg.CountString", "internal/bytealg.IndexByteString", "internal/bytealg.IndexString", "internal/abi.NoEscape", "internal/bytealg.MakeNoZero"], unfollowed := true, recurses := true, named := ["unicode/utf8.first", "unicode/utf8.acceptRanges", "internal/bytealg.MaxLen", "internal/strconv.uint64pow10", "math/bits.deBruijn32tab", "math/bits.deBruijn64tab"], plainKeys := false, apart := false, laid := [("math/bits.deBruijn32tab", laid_math_bits_deBruijn32tab), ("math/bits.deBruijn64tab", laid_math_bits_deBruijn64tab), ("internal/strconv.uint64pow10", laid_internal_strconv_uint64pow10), ("unicode/utf8.acceptRanges", laid_unicode_utf8_acceptRanges), ("unicode/utf8.first", laid_unicode_utf8_first)] }
def JointMendsSaid : Prop := jointMendsRow.holds Tryz.pinned (OpenSpec.ofChange jointMendsSpec)

/-- ITS FALSE NEIGHBOUR: 'it returns false'. Refute it at one input. -/
def jointMendsWrong : ChangeSpec := { name := "jointMends", fn := fun _ => fun
  | [d1, d2, d3] => { results := [.lit (.bool false)], args := [d1, d2, d3] }
  | _ => none }
def JointMendsWrongFalsely : Prop := jointMendsRow.holds Tryz.pinned (OpenSpec.ofChange jointMendsWrong)

/-- 'kelirlaw02.JointFewest': WHATEVER THE INPUT: true; the input reads as it did. -/
def jointFewestSpec : ChangeSpec := { name := "jointFewest", fn := fun _ => fun
  | [d1, d2, d3, d4] => { results := [.lit (.bool true)], args := [d1, d2, d3, d4] }
  | _ => none }
def jointFewestRow : OpenClaim := { program := "ytmnocohggpmjcaagreatdoor", sum := "ce9a0e86d152e349c1f9a4ce78b04846b69c0a0deedc9273e46180a2b3aaab93", func := "kelir/kelirlaw02.JointFewest", spec := "jointFewest", inPlace := ["internal/bytealg.CountString", "internal/bytealg.IndexByteString", "internal/bytealg.IndexString", "internal/abi.NoEscape", "internal/bytealg.MakeNoZero"], unfollowed := true, recurses := true, named := ["unicode/utf8.first", "unicode/utf8.acceptRanges", "internal/bytealg.MaxLen", "internal/strconv.uint64pow10", "math/bits.deBruijn32tab", "math/bits.deBruijn64tab"], plainKeys := false, apart := false, laid := [("math/bits.deBruijn32tab", laid_math_bits_deBruijn32tab), ("math/bits.deBruijn64tab", laid_math_bits_deBruijn64tab), ("internal/strconv.uint64pow10", laid_internal_strconv_uint64pow10), ("unicode/utf8.acceptRanges", laid_unicode_utf8_acceptRanges), ("unicode/utf8.first", laid_unicode_utf8_first)] }
def JointFewestSaid : Prop := jointFewestRow.holds Tryz.pinned (OpenSpec.ofChange jointFewestSpec)

/-- ITS FALSE NEIGHBOUR: 'it returns false'. Refute it at one input. -/
def jointFewestWrong : ChangeSpec := { name := "jointFewest", fn := fun _ => fun
  | [d1, d2, d3, d4] => { results := [.lit (.bool false)], args := [d1, d2, d3, d4] }
  | _ => none }
def JointFewestWrongFalsely : Prop := jointFewestRow.holds Tryz.pinned (OpenSpec.ofChange jointFewestWrong)

/-- 'kelirlaw02.JointMore': WHATEVER THE INPUT: true; the input reads as it did. -/
def jointMoreSpec : ChangeSpec := { name := "jointMore", fn := fun _ => fun
  | [d1, d2, d3, d4, d5, d6, d7] => { results := [.lit (.bool true)], args := [d1, d2, d3, d4, d5, d6, d7] }
  | _ => none }
def jointMoreRow : OpenClaim := { program := "ytmnocohggpmjcaagreatdoor", sum := "ce9a0e86d152e349c1f9a4ce78b04846b69c0a0deedc9273e46180a2b3aaab93", func := "kelir/kelirlaw02.JointMore", spec := "jointMore", inPlace := ["internal/bytealg.CountString", "internal/bytealg.IndexByteString", "internal/bytealg.IndexString", "internal/abi.NoEscape", "internal/bytealg.MakeNoZero"], unfollowed := true, recurses := true, named := ["unicode/utf8.first", "unicode/utf8.acceptRanges", "internal/bytealg.MaxLen", "internal/strconv.uint64pow10", "math/bits.deBruijn32tab", "math/bits.deBruijn64tab"], plainKeys := false, apart := false, laid := [("math/bits.deBruijn32tab", laid_math_bits_deBruijn32tab), ("math/bits.deBruijn64tab", laid_math_bits_deBruijn64tab), ("internal/strconv.uint64pow10", laid_internal_strconv_uint64pow10), ("unicode/utf8.acceptRanges", laid_unicode_utf8_acceptRanges), ("unicode/utf8.first", laid_unicode_utf8_first)] }
def JointMoreSaid : Prop := jointMoreRow.holds Tryz.pinned (OpenSpec.ofChange jointMoreSpec)

/-- ITS FALSE NEIGHBOUR: 'it returns false'. Refute it at one input. -/
def jointMoreWrong : ChangeSpec := { name := "jointMore", fn := fun _ => fun
  | [d1, d2, d3, d4, d5, d6, d7] => { results := [.lit (.bool false)], args := [d1, d2, d3, d4, d5, d6, d7] }
  | _ => none }
def JointMoreWrongFalsely : Prop := jointMoreRow.holds Tryz.pinned (OpenSpec.ofChange jointMoreWrong)

/-- 'kelirlaw02.JointEnds': WHATEVER THE INPUT: true; the input reads as it did. -/
def jointEndsSpec : ChangeSpec := { name := "jointEnds", fn := fun _ => fun
  | [d1, d2] => { results := [.lit (.bool true)], args := [d1, d2] }
  | _ => none }
def jointEndsRow : OpenClaim := { program := "ytmnocohggpmjcaagreatdoor", sum := "ce9a0e86d152e349c1f9a4ce78b04846b69c0a0deedc9273e46180a2b3aaab93", func := "kelir/kelirlaw02.JointEnds", spec := "jointEnds", inPlace := ["internal/bytealg.CountString", "internal/bytealg.IndexByteString", "internal/bytealg.IndexString", "internal/abi.NoEscape", "internal/bytealg.MakeNoZero"], unfollowed := true, recurses := true, named := ["unicode/utf8.first", "unicode/utf8.acceptRanges", "internal/bytealg.MaxLen", "internal/strconv.uint64pow10", "math/bits.deBruijn32tab", "math/bits.deBruijn64tab"], plainKeys := false, apart := false, laid := [("math/bits.deBruijn32tab", laid_math_bits_deBruijn32tab), ("math/bits.deBruijn64tab", laid_math_bits_deBruijn64tab), ("internal/strconv.uint64pow10", laid_internal_strconv_uint64pow10), ("unicode/utf8.acceptRanges", laid_unicode_utf8_acceptRanges), ("unicode/utf8.first", laid_unicode_utf8_first)] }
def JointEndsSaid : Prop := jointEndsRow.holds Tryz.pinned (OpenSpec.ofChange jointEndsSpec)

/-- ITS FALSE NEIGHBOUR: 'it returns false'. Refute it at one input. -/
def jointEndsWrong : ChangeSpec := { name := "jointEnds", fn := fun _ => fun
  | [d1, d2] => { results := [.lit (.bool false)], args := [d1, d2] }
  | _ => none }
def JointEndsWrongFalsely : Prop := jointEndsRow.holds Tryz.pinned (OpenSpec.ofChange jointEndsWrong)

/-- 'kelirlaw02.JointFines': WHATEVER THE INPUT: true; the input reads as it did. -/
def jointFinesSpec : ChangeSpec := { name := "jointFines", fn := fun _ => fun
  | [d1, d2, d3] => { results := [.lit (.bool true)], args := [d1, d2, d3] }
  | _ => none }
def jointFinesRow : OpenClaim := { program := "ytmnocohggpmjcaagreatdoor", sum := "ce9a0e86d152e349c1f9a4ce78b04846b69c0a0deedc9273e46180a2b3aaab93", func := "kelir/kelirlaw02.JointFines", spec := "jointFines", inPlace := ["internal/bytealg.CountString", "internal/bytealg.IndexByteString", "internal/bytealg.IndexString", "internal/abi.NoEscape", "internal/bytealg.MakeNoZero"], unfollowed := true, recurses := true, named := ["unicode/utf8.first", "unicode/utf8.acceptRanges", "internal/bytealg.MaxLen", "internal/strconv.uint64pow10", "math/bits.deBruijn32tab", "math/bits.deBruijn64tab"], plainKeys := false, apart := false, laid := [("math/bits.deBruijn32tab", laid_math_bits_deBruijn32tab), ("math/bits.deBruijn64tab", laid_math_bits_deBruijn64tab), ("internal/strconv.uint64pow10", laid_internal_strconv_uint64pow10), ("unicode/utf8.acceptRanges", laid_unicode_utf8_acceptRanges), ("unicode/utf8.first", laid_unicode_utf8_first)] }
def JointFinesSaid : Prop := jointFinesRow.holds Tryz.pinned (OpenSpec.ofChange jointFinesSpec)

/-- ITS FALSE NEIGHBOUR: 'it returns false'. Refute it at one input. -/
def jointFinesWrong : ChangeSpec := { name := "jointFines", fn := fun _ => fun
  | [d1, d2, d3] => { results := [.lit (.bool false)], args := [d1, d2, d3] }
  | _ => none }
def JointFinesWrongFalsely : Prop := jointFinesRow.holds Tryz.pinned (OpenSpec.ofChange jointFinesWrong)

/-- 'kelirlaw02.JointHeld': WHATEVER THE INPUT: true; the input reads as it did. -/
def jointHeldSpec : ChangeSpec := { name := "jointHeld", fn := fun _ => fun
  | [d1, d2, d3, d4] => { results := [.lit (.bool true)], args := [d1, d2, d3, d4] }
  | _ => none }
def jointHeldRow : OpenClaim := { program := "ytmnocohggpmjcaagreatdoor", sum := "ce9a0e86d152e349c1f9a4ce78b04846b69c0a0deedc9273e46180a2b3aaab93", func := "kelir/kelirlaw02.JointHeld", spec := "jointHeld", inPlace := ["internal/bytealg.CountString", "internal/bytealg.IndexByteString", "internal/bytealg.IndexString", "internal/abi.NoEscape", "internal/bytealg.MakeNoZero"], unfollowed := true, recurses := true, named := ["unicode/utf8.first", "unicode/utf8.acceptRanges", "internal/bytealg.MaxLen", "internal/strconv.uint64pow10", "math/bits.deBruijn32tab", "math/bits.deBruijn64tab"], plainKeys := false, apart := false, laid := [("math/bits.deBruijn32tab", laid_math_bits_deBruijn32tab), ("math/bits.deBruijn64tab", laid_math_bits_deBruijn64tab), ("internal/strconv.uint64pow10", laid_internal_strconv_uint64pow10), ("unicode/utf8.acceptRanges", laid_unicode_utf8_acceptRanges), ("unicode/utf8.first", laid_unicode_utf8_first)] }
def JointHeldSaid : Prop := jointHeldRow.holds Tryz.pinned (OpenSpec.ofChange jointHeldSpec)

/-- ITS FALSE NEIGHBOUR: 'it returns false'. Refute it at one input. -/
def jointHeldWrong : ChangeSpec := { name := "jointHeld", fn := fun _ => fun
  | [d1, d2, d3, d4] => { results := [.lit (.bool false)], args := [d1, d2, d3, d4] }
  | _ => none }
def JointHeldWrongFalsely : Prop := jointHeldRow.holds Tryz.pinned (OpenSpec.ofChange jointHeldWrong)

/-- 'kelirlaw02.JointWalked': WHATEVER THE INPUT: true; the input reads as it did. -/
def jointWalkedSpec : ChangeSpec := { name := "jointWalked", fn := fun _ => fun
  | [d1, d2, d3, d4, d5] => { results := [.lit (.bool true)], args := [d1, d2, d3, d4, d5] }
  | _ => none }
def jointWalkedRow : OpenClaim := { program := "ytmnocohggpmjcaagreatdoor", sum := "ce9a0e86d152e349c1f9a4ce78b04846b69c0a0deedc9273e46180a2b3aaab93", func := "kelir/kelirlaw02.JointWalked", spec := "jointWalked", inPlace := ["internal/bytealg.CountString", "internal/bytealg.IndexByteString", "internal/bytealg.IndexString", "internal/abi.NoEscape", "internal/bytealg.MakeNoZero"], unfollowed := true, recurses := true, named := ["unicode/utf8.first", "unicode/utf8.acceptRanges", "internal/bytealg.MaxLen", "internal/strconv.uint64pow10", "math/bits.deBruijn32tab", "math/bits.deBruijn64tab"], plainKeys := false, apart := false, laid := [("math/bits.deBruijn32tab", laid_math_bits_deBruijn32tab), ("math/bits.deBruijn64tab", laid_math_bits_deBruijn64tab), ("internal/strconv.uint64pow10", laid_internal_strconv_uint64pow10), ("unicode/utf8.acceptRanges", laid_unicode_utf8_acceptRanges), ("unicode/utf8.first", laid_unicode_utf8_first)] }
def JointWalkedSaid : Prop := jointWalkedRow.holds Tryz.pinned (OpenSpec.ofChange jointWalkedSpec)

/-- ITS FALSE NEIGHBOUR: 'it returns false'. Refute it at one input. -/
def jointWalkedWrong : ChangeSpec := { name := "jointWalked", fn := fun _ => fun
  | [d1, d2, d3, d4, d5] => { results := [.lit (.bool false)], args := [d1, d2, d3, d4, d5] }
  | _ => none }
def JointWalkedWrongFalsely : Prop := jointWalkedRow.holds Tryz.pinned (OpenSpec.ofChange jointWalkedWrong)

/-- 'kelirlaw02.JointNear': WHATEVER THE INPUT: true; the input reads as it did. -/
def jointNearSpec : ChangeSpec := { name := "jointNear", fn := fun _ => fun
  | [d1, d2, d3, d4, d5] => { results := [.lit (.bool true)], args := [d1, d2, d3, d4, d5] }
  | _ => none }
def jointNearRow : OpenClaim := { program := "ytmnocohggpmjcaagreatdoor", sum := "ce9a0e86d152e349c1f9a4ce78b04846b69c0a0deedc9273e46180a2b3aaab93", func := "kelir/kelirlaw02.JointNear", spec := "jointNear", inPlace := ["internal/bytealg.CountString", "internal/bytealg.IndexByteString", "internal/bytealg.IndexString", "internal/abi.NoEscape", "internal/bytealg.MakeNoZero"], unfollowed := true, recurses := true, named := ["unicode/utf8.first", "unicode/utf8.acceptRanges", "internal/bytealg.MaxLen", "internal/strconv.uint64pow10", "math/bits.deBruijn32tab", "math/bits.deBruijn64tab"], plainKeys := false, apart := false, laid := [("math/bits.deBruijn32tab", laid_math_bits_deBruijn32tab), ("math/bits.deBruijn64tab", laid_math_bits_deBruijn64tab), ("internal/strconv.uint64pow10", laid_internal_strconv_uint64pow10), ("unicode/utf8.acceptRanges", laid_unicode_utf8_acceptRanges), ("unicode/utf8.first", laid_unicode_utf8_first)] }
def JointNearSaid : Prop := jointNearRow.holds Tryz.pinned (OpenSpec.ofChange jointNearSpec)

/-- ITS FALSE NEIGHBOUR: 'it returns false'. Refute it at one input. -/
def jointNearWrong : ChangeSpec := { name := "jointNear", fn := fun _ => fun
  | [d1, d2, d3, d4, d5] => { results := [.lit (.bool false)], args := [d1, d2, d3, d4, d5] }
  | _ => none }
def JointNearWrongFalsely : Prop := jointNearRow.holds Tryz.pinned (OpenSpec.ofChange jointNearWrong)

/-- 'kelirlaw02.JointLoose': WHATEVER THE INPUT: true; the input reads as it did. -/
def jointLooseSpec : ChangeSpec := { name := "jointLoose", fn := fun _ => fun
  | [d1, d2, d3, d4, d5] => { results := [.lit (.bool true)], args := [d1, d2, d3, d4, d5] }
  | _ => none }
def jointLooseRow : OpenClaim := { program := "ytmnocohggpmjcaagreatdoor", sum := "ce9a0e86d152e349c1f9a4ce78b04846b69c0a0deedc9273e46180a2b3aaab93", func := "kelir/kelirlaw02.JointLoose", spec := "jointLoose", inPlace := ["internal/bytealg.CountString", "internal/bytealg.IndexByteString", "internal/bytealg.IndexString", "internal/abi.NoEscape", "internal/bytealg.MakeNoZero"], unfollowed := true, recurses := true, named := ["unicode/utf8.first", "unicode/utf8.acceptRanges", "internal/bytealg.MaxLen", "internal/strconv.uint64pow10", "math/bits.deBruijn32tab", "math/bits.deBruijn64tab"], plainKeys := false, apart := false, laid := [("math/bits.deBruijn32tab", laid_math_bits_deBruijn32tab), ("math/bits.deBruijn64tab", laid_math_bits_deBruijn64tab), ("internal/strconv.uint64pow10", laid_internal_strconv_uint64pow10), ("unicode/utf8.acceptRanges", laid_unicode_utf8_acceptRanges), ("unicode/utf8.first", laid_unicode_utf8_first)] }
def JointLooseSaid : Prop := jointLooseRow.holds Tryz.pinned (OpenSpec.ofChange jointLooseSpec)

/-- ITS FALSE NEIGHBOUR: 'it returns false'. Refute it at one input. -/
def jointLooseWrong : ChangeSpec := { name := "jointLoose", fn := fun _ => fun
  | [d1, d2, d3, d4, d5] => { results := [.lit (.bool false)], args := [d1, d2, d3, d4, d5] }
  | _ => none }
def JointLooseWrongFalsely : Prop := jointLooseRow.holds Tryz.pinned (OpenSpec.ofChange jointLooseWrong)

/-- 'kelirlaw02.JointPrints': WHATEVER THE INPUT: true; the input reads as it did. -/
def jointPrintsSpec : ChangeSpec := { name := "jointPrints", fn := fun _ => fun
  | [d] => { results := [.lit (.bool true)], args := [d] }
  | _ => none }
def jointPrintsRow : OpenClaim := { program := "ytmnocohggpmjcaagreatdoor", sum := "ce9a0e86d152e349c1f9a4ce78b04846b69c0a0deedc9273e46180a2b3aaab93", func := "kelir/kelirlaw02.JointPrints", spec := "jointPrints", inPlace := ["internal/bytealg.CountString", "internal/bytealg.IndexByteString", "internal/bytealg.IndexString", "internal/abi.NoEscape", "internal/bytealg.MakeNoZero"], unfollowed := true, recurses := true, named := ["unicode/utf8.first", "unicode/utf8.acceptRanges", "internal/bytealg.MaxLen", "internal/strconv.uint64pow10", "math/bits.deBruijn32tab", "math/bits.deBruijn64tab"], plainKeys := false, apart := false, laid := [("math/bits.deBruijn32tab", laid_math_bits_deBruijn32tab), ("math/bits.deBruijn64tab", laid_math_bits_deBruijn64tab), ("internal/strconv.uint64pow10", laid_internal_strconv_uint64pow10), ("unicode/utf8.acceptRanges", laid_unicode_utf8_acceptRanges), ("unicode/utf8.first", laid_unicode_utf8_first)] }
def JointPrintsSaid : Prop := jointPrintsRow.holds Tryz.pinned (OpenSpec.ofChange jointPrintsSpec)

/-- ITS FALSE NEIGHBOUR: 'it returns false'. Refute it at one input. -/
def jointPrintsWrong : ChangeSpec := { name := "jointPrints", fn := fun _ => fun
  | [d] => { results := [.lit (.bool false)], args := [d] }
  | _ => none }
def JointPrintsWrongFalsely : Prop := jointPrintsRow.holds Tryz.pinned (OpenSpec.ofChange jointPrintsWrong)

/-- 'kelirlaw02.JointReads': WHATEVER THE INPUT: true; the input reads as it did. -/
def jointReadsSpec : ChangeSpec := { name := "jointReads", fn := fun _ => fun
  | [d] => { results := [.lit (.bool true)], args := [d] }
  | _ => none }
def jointReadsRow : OpenClaim := { program := "ytmnocohggpmjcaagreatdoor", sum := "ce9a0e86d152e349c1f9a4ce78b04846b69c0a0deedc9273e46180a2b3aaab93", func := "kelir/kelirlaw02.JointReads", spec := "jointReads", inPlace := ["internal/bytealg.CountString", "internal/bytealg.IndexByteString", "internal/bytealg.IndexString", "internal/abi.NoEscape", "internal/bytealg.MakeNoZero"], unfollowed := true, recurses := true, named := ["unicode/utf8.first", "unicode/utf8.acceptRanges", "internal/bytealg.MaxLen", "internal/strconv.uint64pow10", "math/bits.deBruijn32tab", "math/bits.deBruijn64tab"], plainKeys := false, apart := false, laid := [("math/bits.deBruijn32tab", laid_math_bits_deBruijn32tab), ("math/bits.deBruijn64tab", laid_math_bits_deBruijn64tab), ("internal/strconv.uint64pow10", laid_internal_strconv_uint64pow10), ("unicode/utf8.acceptRanges", laid_unicode_utf8_acceptRanges), ("unicode/utf8.first", laid_unicode_utf8_first)] }
def JointReadsSaid : Prop := jointReadsRow.holds Tryz.pinned (OpenSpec.ofChange jointReadsSpec)

/-- ITS FALSE NEIGHBOUR: 'it returns false'. Refute it at one input. -/
def jointReadsWrong : ChangeSpec := { name := "jointReads", fn := fun _ => fun
  | [d] => { results := [.lit (.bool false)], args := [d] }
  | _ => none }
def JointReadsWrongFalsely : Prop := jointReadsRow.holds Tryz.pinned (OpenSpec.ofChange jointReadsWrong)

/-- 'kelirlaw02.JointSpoilt': WHATEVER THE INPUT: true; the input reads as it did. -/
def jointSpoiltSpec : ChangeSpec := { name := "jointSpoilt", fn := fun _ => fun
  | [d1, d2, d3] => { results := [.lit (.bool true)], args := [d1, d2, d3] }
  | _ => none }
def jointSpoiltRow : OpenClaim := { program := "ytmnocohggpmjcaagreatdoor", sum := "ce9a0e86d152e349c1f9a4ce78b04846b69c0a0deedc9273e46180a2b3aaab93", func := "kelir/kelirlaw02.JointSpoilt", spec := "jointSpoilt", inPlace := ["internal/bytealg.CountString", "internal/bytealg.IndexByteString", "internal/bytealg.IndexString", "internal/abi.NoEscape", "internal/bytealg.MakeNoZero"], unfollowed := true, recurses := true, named := ["unicode/utf8.first", "unicode/utf8.acceptRanges", "internal/bytealg.MaxLen", "internal/strconv.uint64pow10", "math/bits.deBruijn32tab", "math/bits.deBruijn64tab"], plainKeys := false, apart := false, laid := [("math/bits.deBruijn32tab", laid_math_bits_deBruijn32tab), ("math/bits.deBruijn64tab", laid_math_bits_deBruijn64tab), ("internal/strconv.uint64pow10", laid_internal_strconv_uint64pow10), ("unicode/utf8.acceptRanges", laid_unicode_utf8_acceptRanges), ("unicode/utf8.first", laid_unicode_utf8_first)] }
def JointSpoiltSaid : Prop := jointSpoiltRow.holds Tryz.pinned (OpenSpec.ofChange jointSpoiltSpec)

/-- ITS FALSE NEIGHBOUR: 'it returns false'. Refute it at one input. -/
def jointSpoiltWrong : ChangeSpec := { name := "jointSpoilt", fn := fun _ => fun
  | [d1, d2, d3] => { results := [.lit (.bool false)], args := [d1, d2, d3] }
  | _ => none }
def JointSpoiltWrongFalsely : Prop := jointSpoiltRow.holds Tryz.pinned (OpenSpec.ofChange jointSpoiltWrong)

/- THE SECOND FORM. 'bulk': how many values and letters a reading holds, each counted each time it is reached (what is shared counts as often as it is met; a slice's spare places count too). A statement '..UptoSaid' is the law's where the arguments, and the package variables that the reading takes, are together of bulk at most 1048576: NARROWER than '..Said'. Prove '..Said' where nothing that the law and all that it calls make is longer than what came in: it says more and counts as full. Else prove '..UptoSaid'. A law counts once. -/
mutual
def uptoBulk {H : Type} : DataW H → Nat
  | .lit (.string bytes) => bytes.length + 1
  | .lit _ => 1
  | .nil => 1
  | .ptr d => uptoBulk d + 1
  | .slice elems spare => uptoBulkAll elems + uptoBulkAll spare + 1
  | .agg parts => uptoBulkAll parts + 1
  | .iface _ d => uptoBulk d + 1
  | .map entries => uptoBulkEntries entries + 1
  | .held _ => 1
def uptoBulkAll {H : Type} : List (DataW H) → Nat
  | [] => 0
  | d :: r => uptoBulk d + uptoBulkAll r
def uptoBulkEntries {H : Type} : List (Lit × DataW H) → Nat
  | [] => 0
  | x :: r => uptoBulkEntry x + uptoBulkEntries r
def uptoBulkEntry {H : Type} : Lit × DataW H → Nat
  | (.string bytes, d) => bytes.length + uptoBulk d + 1
  | (_, d) => uptoBulk d + 1
 end
def uptoSmall : (H : Type) → List (DataW H) → Bool := fun _ ds => decide (uptoBulkAll ds ≤ 1048576)
def OpenSpec.upto (s : _root_.Go.ChangeSpec) : _root_.Go.OpenSpec := { _root_.Go.OpenSpec.ofChange s with cond := some uptoSmall }

/-- 'kelirlaw02.JointTurned', WHERE WHAT IT READS IS OF BULK AT MOST 1048576: true; the input reads as it did. -/
def jointTurnedUptoRow : OpenClaim := { program := "ytmnocohggpmjcaagreatdoor", sum := "ce9a0e86d152e349c1f9a4ce78b04846b69c0a0deedc9273e46180a2b3aaab93", func := "kelir/kelirlaw02.JointTurned", spec := "jointTurned", inPlace := ["internal/bytealg.CountString", "internal/bytealg.IndexByteString", "internal/bytealg.IndexString", "internal/abi.NoEscape", "internal/bytealg.MakeNoZero"], unfollowed := true, recurses := true, named := ["unicode/utf8.first", "unicode/utf8.acceptRanges", "internal/bytealg.MaxLen", "internal/strconv.uint64pow10", "math/bits.deBruijn32tab", "math/bits.deBruijn64tab"], plainKeys := false, apart := false, laid := [("math/bits.deBruijn32tab", laid_math_bits_deBruijn32tab), ("math/bits.deBruijn64tab", laid_math_bits_deBruijn64tab), ("internal/strconv.uint64pow10", laid_internal_strconv_uint64pow10), ("unicode/utf8.acceptRanges", laid_unicode_utf8_acceptRanges), ("unicode/utf8.first", laid_unicode_utf8_first)], narrowed := true }
def JointTurnedUptoSaid : Prop := jointTurnedUptoRow.holds Tryz.pinned (OpenSpec.upto jointTurnedSpec)

/-- 'kelirlaw02.JointReach', WHERE WHAT IT READS IS OF BULK AT MOST 1048576: true; the input reads as it did. -/
def jointReachUptoRow : OpenClaim := { program := "ytmnocohggpmjcaagreatdoor", sum := "ce9a0e86d152e349c1f9a4ce78b04846b69c0a0deedc9273e46180a2b3aaab93", func := "kelir/kelirlaw02.JointReach", spec := "jointReach", inPlace := ["internal/bytealg.CountString", "internal/bytealg.IndexByteString", "internal/bytealg.IndexString", "internal/abi.NoEscape", "internal/bytealg.MakeNoZero"], unfollowed := true, recurses := true, named := ["unicode/utf8.first", "unicode/utf8.acceptRanges", "internal/bytealg.MaxLen", "internal/strconv.uint64pow10", "math/bits.deBruijn32tab", "math/bits.deBruijn64tab"], plainKeys := false, apart := false, laid := [("math/bits.deBruijn32tab", laid_math_bits_deBruijn32tab), ("math/bits.deBruijn64tab", laid_math_bits_deBruijn64tab), ("internal/strconv.uint64pow10", laid_internal_strconv_uint64pow10), ("unicode/utf8.acceptRanges", laid_unicode_utf8_acceptRanges), ("unicode/utf8.first", laid_unicode_utf8_first)], narrowed := true }
def JointReachUptoSaid : Prop := jointReachUptoRow.holds Tryz.pinned (OpenSpec.upto jointReachSpec)

/-- 'kelirlaw02.JointKnowns', WHERE WHAT IT READS IS OF BULK AT MOST 1048576: true; the input reads as it did. -/
def jointKnownsUptoRow : OpenClaim := { program := "ytmnocohggpmjcaagreatdoor", sum := "ce9a0e86d152e349c1f9a4ce78b04846b69c0a0deedc9273e46180a2b3aaab93", func := "kelir/kelirlaw02.JointKnowns", spec := "jointKnowns", inPlace := ["internal/bytealg.CountString", "internal/bytealg.IndexByteString", "internal/bytealg.IndexString", "internal/abi.NoEscape", "internal/bytealg.MakeNoZero"], unfollowed := true, recurses := true, named := ["unicode/utf8.first", "unicode/utf8.acceptRanges", "internal/bytealg.MaxLen", "internal/strconv.uint64pow10", "math/bits.deBruijn32tab", "math/bits.deBruijn64tab"], plainKeys := false, apart := false, laid := [("math/bits.deBruijn32tab", laid_math_bits_deBruijn32tab), ("math/bits.deBruijn64tab", laid_math_bits_deBruijn64tab), ("internal/strconv.uint64pow10", laid_internal_strconv_uint64pow10), ("unicode/utf8.acceptRanges", laid_unicode_utf8_acceptRanges), ("unicode/utf8.first", laid_unicode_utf8_first)], narrowed := true }
def JointKnownsUptoSaid : Prop := jointKnownsUptoRow.holds Tryz.pinned (OpenSpec.upto jointKnownsSpec)

/-- 'kelirlaw02.JointTrue', WHERE WHAT IT READS IS OF BULK AT MOST 1048576: true; the input reads as it did. -/
def jointTrueUptoRow : OpenClaim := { program := "ytmnocohggpmjcaagreatdoor", sum := "ce9a0e86d152e349c1f9a4ce78b04846b69c0a0deedc9273e46180a2b3aaab93", func := "kelir/kelirlaw02.JointTrue", spec := "jointTrue", inPlace := ["internal/bytealg.CountString", "internal/bytealg.IndexByteString", "internal/bytealg.IndexString", "internal/abi.NoEscape", "internal/bytealg.MakeNoZero"], unfollowed := true, recurses := true, named := ["unicode/utf8.first", "unicode/utf8.acceptRanges", "internal/bytealg.MaxLen", "internal/strconv.uint64pow10", "math/bits.deBruijn32tab", "math/bits.deBruijn64tab"], plainKeys := false, apart := false, laid := [("math/bits.deBruijn32tab", laid_math_bits_deBruijn32tab), ("math/bits.deBruijn64tab", laid_math_bits_deBruijn64tab), ("internal/strconv.uint64pow10", laid_internal_strconv_uint64pow10), ("unicode/utf8.acceptRanges", laid_unicode_utf8_acceptRanges), ("unicode/utf8.first", laid_unicode_utf8_first)], narrowed := true }
def JointTrueUptoSaid : Prop := jointTrueUptoRow.holds Tryz.pinned (OpenSpec.upto jointTrueSpec)

/-- 'kelirlaw02.JointPaths', WHERE WHAT IT READS IS OF BULK AT MOST 1048576: true; the input reads as it did. -/
def jointPathsUptoRow : OpenClaim := { program := "ytmnocohggpmjcaagreatdoor", sum := "ce9a0e86d152e349c1f9a4ce78b04846b69c0a0deedc9273e46180a2b3aaab93", func := "kelir/kelirlaw02.JointPaths", spec := "jointPaths", inPlace := ["internal/bytealg.CountString", "internal/bytealg.IndexByteString", "internal/bytealg.IndexString", "internal/abi.NoEscape", "internal/bytealg.MakeNoZero"], unfollowed := true, recurses := true, named := ["unicode/utf8.first", "unicode/utf8.acceptRanges", "internal/bytealg.MaxLen", "internal/strconv.uint64pow10", "math/bits.deBruijn32tab", "math/bits.deBruijn64tab"], plainKeys := false, apart := false, laid := [("math/bits.deBruijn32tab", laid_math_bits_deBruijn32tab), ("math/bits.deBruijn64tab", laid_math_bits_deBruijn64tab), ("internal/strconv.uint64pow10", laid_internal_strconv_uint64pow10), ("unicode/utf8.acceptRanges", laid_unicode_utf8_acceptRanges), ("unicode/utf8.first", laid_unicode_utf8_first)], narrowed := true }
def JointPathsUptoSaid : Prop := jointPathsUptoRow.holds Tryz.pinned (OpenSpec.upto jointPathsSpec)

/-- 'kelirlaw02.JointAims', WHERE WHAT IT READS IS OF BULK AT MOST 1048576: true; the input reads as it did. -/
def jointAimsUptoRow : OpenClaim := { program := "ytmnocohggpmjcaagreatdoor", sum := "ce9a0e86d152e349c1f9a4ce78b04846b69c0a0deedc9273e46180a2b3aaab93", func := "kelir/kelirlaw02.JointAims", spec := "jointAims", inPlace := ["internal/bytealg.CountString", "internal/bytealg.IndexByteString", "internal/bytealg.IndexString", "internal/abi.NoEscape", "internal/bytealg.MakeNoZero"], unfollowed := true, recurses := true, named := ["unicode/utf8.first", "unicode/utf8.acceptRanges", "internal/bytealg.MaxLen", "internal/strconv.uint64pow10", "math/bits.deBruijn32tab", "math/bits.deBruijn64tab"], plainKeys := false, apart := false, laid := [("math/bits.deBruijn32tab", laid_math_bits_deBruijn32tab), ("math/bits.deBruijn64tab", laid_math_bits_deBruijn64tab), ("internal/strconv.uint64pow10", laid_internal_strconv_uint64pow10), ("unicode/utf8.acceptRanges", laid_unicode_utf8_acceptRanges), ("unicode/utf8.first", laid_unicode_utf8_first)], narrowed := true }
def JointAimsUptoSaid : Prop := jointAimsUptoRow.holds Tryz.pinned (OpenSpec.upto jointAimsSpec)

/-- 'kelirlaw02.JointParts', WHERE WHAT IT READS IS OF BULK AT MOST 1048576: true; the input reads as it did. -/
def jointPartsUptoRow : OpenClaim := { program := "ytmnocohggpmjcaagreatdoor", sum := "ce9a0e86d152e349c1f9a4ce78b04846b69c0a0deedc9273e46180a2b3aaab93", func := "kelir/kelirlaw02.JointParts", spec := "jointParts", inPlace := ["internal/bytealg.CountString", "internal/bytealg.IndexByteString", "internal/bytealg.IndexString", "internal/abi.NoEscape", "internal/bytealg.MakeNoZero"], unfollowed := true, recurses := true, named := ["unicode/utf8.first", "unicode/utf8.acceptRanges", "internal/bytealg.MaxLen", "internal/strconv.uint64pow10", "math/bits.deBruijn32tab", "math/bits.deBruijn64tab"], plainKeys := false, apart := false, laid := [("math/bits.deBruijn32tab", laid_math_bits_deBruijn32tab), ("math/bits.deBruijn64tab", laid_math_bits_deBruijn64tab), ("internal/strconv.uint64pow10", laid_internal_strconv_uint64pow10), ("unicode/utf8.acceptRanges", laid_unicode_utf8_acceptRanges), ("unicode/utf8.first", laid_unicode_utf8_first)], narrowed := true }
def JointPartsUptoSaid : Prop := jointPartsUptoRow.holds Tryz.pinned (OpenSpec.upto jointPartsSpec)

/-- 'kelirlaw02.JointApart', WHERE WHAT IT READS IS OF BULK AT MOST 1048576: true; the input reads as it did. -/
def jointApartUptoRow : OpenClaim := { program := "ytmnocohggpmjcaagreatdoor", sum := "ce9a0e86d152e349c1f9a4ce78b04846b69c0a0deedc9273e46180a2b3aaab93", func := "kelir/kelirlaw02.JointApart", spec := "jointApart", inPlace := ["internal/bytealg.CountString", "internal/bytealg.IndexByteString", "internal/bytealg.IndexString", "internal/abi.NoEscape", "internal/bytealg.MakeNoZero"], unfollowed := true, recurses := true, named := ["unicode/utf8.first", "unicode/utf8.acceptRanges", "internal/bytealg.MaxLen", "internal/strconv.uint64pow10", "math/bits.deBruijn32tab", "math/bits.deBruijn64tab"], plainKeys := false, apart := false, laid := [("math/bits.deBruijn32tab", laid_math_bits_deBruijn32tab), ("math/bits.deBruijn64tab", laid_math_bits_deBruijn64tab), ("internal/strconv.uint64pow10", laid_internal_strconv_uint64pow10), ("unicode/utf8.acceptRanges", laid_unicode_utf8_acceptRanges), ("unicode/utf8.first", laid_unicode_utf8_first)], narrowed := true }
def JointApartUptoSaid : Prop := jointApartUptoRow.holds Tryz.pinned (OpenSpec.upto jointApartSpec)

/-- 'kelirlaw02.JointSpreads', WHERE WHAT IT READS IS OF BULK AT MOST 1048576: true; the input reads as it did. -/
def jointSpreadsUptoRow : OpenClaim := { program := "ytmnocohggpmjcaagreatdoor", sum := "ce9a0e86d152e349c1f9a4ce78b04846b69c0a0deedc9273e46180a2b3aaab93", func := "kelir/kelirlaw02.JointSpreads", spec := "jointSpreads", inPlace := ["internal/bytealg.CountString", "internal/bytealg.IndexByteString", "internal/bytealg.IndexString", "internal/abi.NoEscape", "internal/bytealg.MakeNoZero"], unfollowed := true, recurses := true, named := ["unicode/utf8.first", "unicode/utf8.acceptRanges", "internal/bytealg.MaxLen", "internal/strconv.uint64pow10", "math/bits.deBruijn32tab", "math/bits.deBruijn64tab"], plainKeys := false, apart := false, laid := [("math/bits.deBruijn32tab", laid_math_bits_deBruijn32tab), ("math/bits.deBruijn64tab", laid_math_bits_deBruijn64tab), ("internal/strconv.uint64pow10", laid_internal_strconv_uint64pow10), ("unicode/utf8.acceptRanges", laid_unicode_utf8_acceptRanges), ("unicode/utf8.first", laid_unicode_utf8_first)], narrowed := true }
def JointSpreadsUptoSaid : Prop := jointSpreadsUptoRow.holds Tryz.pinned (OpenSpec.upto jointSpreadsSpec)

/-- 'kelirlaw02.JointSures', WHERE WHAT IT READS IS OF BULK AT MOST 1048576: true; the input reads as it did. -/
def jointSuresUptoRow : OpenClaim := { program := "ytmnocohggpmjcaagreatdoor", sum := "ce9a0e86d152e349c1f9a4ce78b04846b69c0a0deedc9273e46180a2b3aaab93", func := "kelir/kelirlaw02.JointSures", spec := "jointSures", inPlace := ["internal/bytealg.CountString", "internal/bytealg.IndexByteString", "internal/bytealg.IndexString", "internal/abi.NoEscape", "internal/bytealg.MakeNoZero"], unfollowed := true, recurses := true, named := ["unicode/utf8.first", "unicode/utf8.acceptRanges", "internal/bytealg.MaxLen", "internal/strconv.uint64pow10", "math/bits.deBruijn32tab", "math/bits.deBruijn64tab"], plainKeys := false, apart := false, laid := [("math/bits.deBruijn32tab", laid_math_bits_deBruijn32tab), ("math/bits.deBruijn64tab", laid_math_bits_deBruijn64tab), ("internal/strconv.uint64pow10", laid_internal_strconv_uint64pow10), ("unicode/utf8.acceptRanges", laid_unicode_utf8_acceptRanges), ("unicode/utf8.first", laid_unicode_utf8_first)], narrowed := true }
def JointSuresUptoSaid : Prop := jointSuresUptoRow.holds Tryz.pinned (OpenSpec.upto jointSuresSpec)

/-- 'kelirlaw02.JointMends', WHERE WHAT IT READS IS OF BULK AT MOST 1048576: true; the input reads as it did. -/
def jointMendsUptoRow : OpenClaim := { program := "ytmnocohggpmjcaagreatdoor", sum := "ce9a0e86d152e349c1f9a4ce78b04846b69c0a0deedc9273e46180a2b3aaab93", func := "kelir/kelirlaw02.JointMends", spec := "jointMends", inPlace := ["internal/bytealg.CountString", "internal/bytealg.IndexByteString", "internal/bytealg.IndexString", "internal/abi.NoEscape", "internal/bytealg.MakeNoZero"], unfollowed := true, recurses := true, named := ["unicode/utf8.first", "unicode/utf8.acceptRanges", "internal/bytealg.MaxLen", "internal/strconv.uint64pow10", "math/bits.deBruijn32tab", "math/bits.deBruijn64tab"], plainKeys := false, apart := false, laid := [("math/bits.deBruijn32tab", laid_math_bits_deBruijn32tab), ("math/bits.deBruijn64tab", laid_math_bits_deBruijn64tab), ("internal/strconv.uint64pow10", laid_internal_strconv_uint64pow10), ("unicode/utf8.acceptRanges", laid_unicode_utf8_acceptRanges), ("unicode/utf8.first", laid_unicode_utf8_first)], narrowed := true }
def JointMendsUptoSaid : Prop := jointMendsUptoRow.holds Tryz.pinned (OpenSpec.upto jointMendsSpec)

/-- 'kelirlaw02.JointFewest', WHERE WHAT IT READS IS OF BULK AT MOST 1048576: true; the input reads as it did. -/
def jointFewestUptoRow : OpenClaim := { program := "ytmnocohggpmjcaagreatdoor", sum := "ce9a0e86d152e349c1f9a4ce78b04846b69c0a0deedc9273e46180a2b3aaab93", func := "kelir/kelirlaw02.JointFewest", spec := "jointFewest", inPlace := ["internal/bytealg.CountString", "internal/bytealg.IndexByteString", "internal/bytealg.IndexString", "internal/abi.NoEscape", "internal/bytealg.MakeNoZero"], unfollowed := true, recurses := true, named := ["unicode/utf8.first", "unicode/utf8.acceptRanges", "internal/bytealg.MaxLen", "internal/strconv.uint64pow10", "math/bits.deBruijn32tab", "math/bits.deBruijn64tab"], plainKeys := false, apart := false, laid := [("math/bits.deBruijn32tab", laid_math_bits_deBruijn32tab), ("math/bits.deBruijn64tab", laid_math_bits_deBruijn64tab), ("internal/strconv.uint64pow10", laid_internal_strconv_uint64pow10), ("unicode/utf8.acceptRanges", laid_unicode_utf8_acceptRanges), ("unicode/utf8.first", laid_unicode_utf8_first)], narrowed := true }
def JointFewestUptoSaid : Prop := jointFewestUptoRow.holds Tryz.pinned (OpenSpec.upto jointFewestSpec)

/-- 'kelirlaw02.JointMore', WHERE WHAT IT READS IS OF BULK AT MOST 1048576: true; the input reads as it did. -/
def jointMoreUptoRow : OpenClaim := { program := "ytmnocohggpmjcaagreatdoor", sum := "ce9a0e86d152e349c1f9a4ce78b04846b69c0a0deedc9273e46180a2b3aaab93", func := "kelir/kelirlaw02.JointMore", spec := "jointMore", inPlace := ["internal/bytealg.CountString", "internal/bytealg.IndexByteString", "internal/bytealg.IndexString", "internal/abi.NoEscape", "internal/bytealg.MakeNoZero"], unfollowed := true, recurses := true, named := ["unicode/utf8.first", "unicode/utf8.acceptRanges", "internal/bytealg.MaxLen", "internal/strconv.uint64pow10", "math/bits.deBruijn32tab", "math/bits.deBruijn64tab"], plainKeys := false, apart := false, laid := [("math/bits.deBruijn32tab", laid_math_bits_deBruijn32tab), ("math/bits.deBruijn64tab", laid_math_bits_deBruijn64tab), ("internal/strconv.uint64pow10", laid_internal_strconv_uint64pow10), ("unicode/utf8.acceptRanges", laid_unicode_utf8_acceptRanges), ("unicode/utf8.first", laid_unicode_utf8_first)], narrowed := true }
def JointMoreUptoSaid : Prop := jointMoreUptoRow.holds Tryz.pinned (OpenSpec.upto jointMoreSpec)

/-- 'kelirlaw02.JointEnds', WHERE WHAT IT READS IS OF BULK AT MOST 1048576: true; the input reads as it did. -/
def jointEndsUptoRow : OpenClaim := { program := "ytmnocohggpmjcaagreatdoor", sum := "ce9a0e86d152e349c1f9a4ce78b04846b69c0a0deedc9273e46180a2b3aaab93", func := "kelir/kelirlaw02.JointEnds", spec := "jointEnds", inPlace := ["internal/bytealg.CountString", "internal/bytealg.IndexByteString", "internal/bytealg.IndexString", "internal/abi.NoEscape", "internal/bytealg.MakeNoZero"], unfollowed := true, recurses := true, named := ["unicode/utf8.first", "unicode/utf8.acceptRanges", "internal/bytealg.MaxLen", "internal/strconv.uint64pow10", "math/bits.deBruijn32tab", "math/bits.deBruijn64tab"], plainKeys := false, apart := false, laid := [("math/bits.deBruijn32tab", laid_math_bits_deBruijn32tab), ("math/bits.deBruijn64tab", laid_math_bits_deBruijn64tab), ("internal/strconv.uint64pow10", laid_internal_strconv_uint64pow10), ("unicode/utf8.acceptRanges", laid_unicode_utf8_acceptRanges), ("unicode/utf8.first", laid_unicode_utf8_first)], narrowed := true }
def JointEndsUptoSaid : Prop := jointEndsUptoRow.holds Tryz.pinned (OpenSpec.upto jointEndsSpec)

/-- 'kelirlaw02.JointFines', WHERE WHAT IT READS IS OF BULK AT MOST 1048576: true; the input reads as it did. -/
def jointFinesUptoRow : OpenClaim := { program := "ytmnocohggpmjcaagreatdoor", sum := "ce9a0e86d152e349c1f9a4ce78b04846b69c0a0deedc9273e46180a2b3aaab93", func := "kelir/kelirlaw02.JointFines", spec := "jointFines", inPlace := ["internal/bytealg.CountString", "internal/bytealg.IndexByteString", "internal/bytealg.IndexString", "internal/abi.NoEscape", "internal/bytealg.MakeNoZero"], unfollowed := true, recurses := true, named := ["unicode/utf8.first", "unicode/utf8.acceptRanges", "internal/bytealg.MaxLen", "internal/strconv.uint64pow10", "math/bits.deBruijn32tab", "math/bits.deBruijn64tab"], plainKeys := false, apart := false, laid := [("math/bits.deBruijn32tab", laid_math_bits_deBruijn32tab), ("math/bits.deBruijn64tab", laid_math_bits_deBruijn64tab), ("internal/strconv.uint64pow10", laid_internal_strconv_uint64pow10), ("unicode/utf8.acceptRanges", laid_unicode_utf8_acceptRanges), ("unicode/utf8.first", laid_unicode_utf8_first)], narrowed := true }
def JointFinesUptoSaid : Prop := jointFinesUptoRow.holds Tryz.pinned (OpenSpec.upto jointFinesSpec)

/-- 'kelirlaw02.JointHeld', WHERE WHAT IT READS IS OF BULK AT MOST 1048576: true; the input reads as it did. -/
def jointHeldUptoRow : OpenClaim := { program := "ytmnocohggpmjcaagreatdoor", sum := "ce9a0e86d152e349c1f9a4ce78b04846b69c0a0deedc9273e46180a2b3aaab93", func := "kelir/kelirlaw02.JointHeld", spec := "jointHeld", inPlace := ["internal/bytealg.CountString", "internal/bytealg.IndexByteString", "internal/bytealg.IndexString", "internal/abi.NoEscape", "internal/bytealg.MakeNoZero"], unfollowed := true, recurses := true, named := ["unicode/utf8.first", "unicode/utf8.acceptRanges", "internal/bytealg.MaxLen", "internal/strconv.uint64pow10", "math/bits.deBruijn32tab", "math/bits.deBruijn64tab"], plainKeys := false, apart := false, laid := [("math/bits.deBruijn32tab", laid_math_bits_deBruijn32tab), ("math/bits.deBruijn64tab", laid_math_bits_deBruijn64tab), ("internal/strconv.uint64pow10", laid_internal_strconv_uint64pow10), ("unicode/utf8.acceptRanges", laid_unicode_utf8_acceptRanges), ("unicode/utf8.first", laid_unicode_utf8_first)], narrowed := true }
def JointHeldUptoSaid : Prop := jointHeldUptoRow.holds Tryz.pinned (OpenSpec.upto jointHeldSpec)

/-- 'kelirlaw02.JointWalked', WHERE WHAT IT READS IS OF BULK AT MOST 1048576: true; the input reads as it did. -/
def jointWalkedUptoRow : OpenClaim := { program := "ytmnocohggpmjcaagreatdoor", sum := "ce9a0e86d152e349c1f9a4ce78b04846b69c0a0deedc9273e46180a2b3aaab93", func := "kelir/kelirlaw02.JointWalked", spec := "jointWalked", inPlace := ["internal/bytealg.CountString", "internal/bytealg.IndexByteString", "internal/bytealg.IndexString", "internal/abi.NoEscape", "internal/bytealg.MakeNoZero"], unfollowed := true, recurses := true, named := ["unicode/utf8.first", "unicode/utf8.acceptRanges", "internal/bytealg.MaxLen", "internal/strconv.uint64pow10", "math/bits.deBruijn32tab", "math/bits.deBruijn64tab"], plainKeys := false, apart := false, laid := [("math/bits.deBruijn32tab", laid_math_bits_deBruijn32tab), ("math/bits.deBruijn64tab", laid_math_bits_deBruijn64tab), ("internal/strconv.uint64pow10", laid_internal_strconv_uint64pow10), ("unicode/utf8.acceptRanges", laid_unicode_utf8_acceptRanges), ("unicode/utf8.first", laid_unicode_utf8_first)], narrowed := true }
def JointWalkedUptoSaid : Prop := jointWalkedUptoRow.holds Tryz.pinned (OpenSpec.upto jointWalkedSpec)

/-- 'kelirlaw02.JointNear', WHERE WHAT IT READS IS OF BULK AT MOST 1048576: true; the input reads as it did. -/
def jointNearUptoRow : OpenClaim := { program := "ytmnocohggpmjcaagreatdoor", sum := "ce9a0e86d152e349c1f9a4ce78b04846b69c0a0deedc9273e46180a2b3aaab93", func := "kelir/kelirlaw02.JointNear", spec := "jointNear", inPlace := ["internal/bytealg.CountString", "internal/bytealg.IndexByteString", "internal/bytealg.IndexString", "internal/abi.NoEscape", "internal/bytealg.MakeNoZero"], unfollowed := true, recurses := true, named := ["unicode/utf8.first", "unicode/utf8.acceptRanges", "internal/bytealg.MaxLen", "internal/strconv.uint64pow10", "math/bits.deBruijn32tab", "math/bits.deBruijn64tab"], plainKeys := false, apart := false, laid := [("math/bits.deBruijn32tab", laid_math_bits_deBruijn32tab), ("math/bits.deBruijn64tab", laid_math_bits_deBruijn64tab), ("internal/strconv.uint64pow10", laid_internal_strconv_uint64pow10), ("unicode/utf8.acceptRanges", laid_unicode_utf8_acceptRanges), ("unicode/utf8.first", laid_unicode_utf8_first)], narrowed := true }
def JointNearUptoSaid : Prop := jointNearUptoRow.holds Tryz.pinned (OpenSpec.upto jointNearSpec)

/-- 'kelirlaw02.JointLoose', WHERE WHAT IT READS IS OF BULK AT MOST 1048576: true; the input reads as it did. -/
def jointLooseUptoRow : OpenClaim := { program := "ytmnocohggpmjcaagreatdoor", sum := "ce9a0e86d152e349c1f9a4ce78b04846b69c0a0deedc9273e46180a2b3aaab93", func := "kelir/kelirlaw02.JointLoose", spec := "jointLoose", inPlace := ["internal/bytealg.CountString", "internal/bytealg.IndexByteString", "internal/bytealg.IndexString", "internal/abi.NoEscape", "internal/bytealg.MakeNoZero"], unfollowed := true, recurses := true, named := ["unicode/utf8.first", "unicode/utf8.acceptRanges", "internal/bytealg.MaxLen", "internal/strconv.uint64pow10", "math/bits.deBruijn32tab", "math/bits.deBruijn64tab"], plainKeys := false, apart := false, laid := [("math/bits.deBruijn32tab", laid_math_bits_deBruijn32tab), ("math/bits.deBruijn64tab", laid_math_bits_deBruijn64tab), ("internal/strconv.uint64pow10", laid_internal_strconv_uint64pow10), ("unicode/utf8.acceptRanges", laid_unicode_utf8_acceptRanges), ("unicode/utf8.first", laid_unicode_utf8_first)], narrowed := true }
def JointLooseUptoSaid : Prop := jointLooseUptoRow.holds Tryz.pinned (OpenSpec.upto jointLooseSpec)

/-- 'kelirlaw02.JointPrints', WHERE WHAT IT READS IS OF BULK AT MOST 1048576: true; the input reads as it did. -/
def jointPrintsUptoRow : OpenClaim := { program := "ytmnocohggpmjcaagreatdoor", sum := "ce9a0e86d152e349c1f9a4ce78b04846b69c0a0deedc9273e46180a2b3aaab93", func := "kelir/kelirlaw02.JointPrints", spec := "jointPrints", inPlace := ["internal/bytealg.CountString", "internal/bytealg.IndexByteString", "internal/bytealg.IndexString", "internal/abi.NoEscape", "internal/bytealg.MakeNoZero"], unfollowed := true, recurses := true, named := ["unicode/utf8.first", "unicode/utf8.acceptRanges", "internal/bytealg.MaxLen", "internal/strconv.uint64pow10", "math/bits.deBruijn32tab", "math/bits.deBruijn64tab"], plainKeys := false, apart := false, laid := [("math/bits.deBruijn32tab", laid_math_bits_deBruijn32tab), ("math/bits.deBruijn64tab", laid_math_bits_deBruijn64tab), ("internal/strconv.uint64pow10", laid_internal_strconv_uint64pow10), ("unicode/utf8.acceptRanges", laid_unicode_utf8_acceptRanges), ("unicode/utf8.first", laid_unicode_utf8_first)], narrowed := true }
def JointPrintsUptoSaid : Prop := jointPrintsUptoRow.holds Tryz.pinned (OpenSpec.upto jointPrintsSpec)

/-- 'kelirlaw02.JointReads', WHERE WHAT IT READS IS OF BULK AT MOST 1048576: true; the input reads as it did. -/
def jointReadsUptoRow : OpenClaim := { program := "ytmnocohggpmjcaagreatdoor", sum := "ce9a0e86d152e349c1f9a4ce78b04846b69c0a0deedc9273e46180a2b3aaab93", func := "kelir/kelirlaw02.JointReads", spec := "jointReads", inPlace := ["internal/bytealg.CountString", "internal/bytealg.IndexByteString", "internal/bytealg.IndexString", "internal/abi.NoEscape", "internal/bytealg.MakeNoZero"], unfollowed := true, recurses := true, named := ["unicode/utf8.first", "unicode/utf8.acceptRanges", "internal/bytealg.MaxLen", "internal/strconv.uint64pow10", "math/bits.deBruijn32tab", "math/bits.deBruijn64tab"], plainKeys := false, apart := false, laid := [("math/bits.deBruijn32tab", laid_math_bits_deBruijn32tab), ("math/bits.deBruijn64tab", laid_math_bits_deBruijn64tab), ("internal/strconv.uint64pow10", laid_internal_strconv_uint64pow10), ("unicode/utf8.acceptRanges", laid_unicode_utf8_acceptRanges), ("unicode/utf8.first", laid_unicode_utf8_first)], narrowed := true }
def JointReadsUptoSaid : Prop := jointReadsUptoRow.holds Tryz.pinned (OpenSpec.upto jointReadsSpec)

/-- 'kelirlaw02.JointSpoilt', WHERE WHAT IT READS IS OF BULK AT MOST 1048576: true; the input reads as it did. -/
def jointSpoiltUptoRow : OpenClaim := { program := "ytmnocohggpmjcaagreatdoor", sum := "ce9a0e86d152e349c1f9a4ce78b04846b69c0a0deedc9273e46180a2b3aaab93", func := "kelir/kelirlaw02.JointSpoilt", spec := "jointSpoilt", inPlace := ["internal/bytealg.CountString", "internal/bytealg.IndexByteString", "internal/bytealg.IndexString", "internal/abi.NoEscape", "internal/bytealg.MakeNoZero"], unfollowed := true, recurses := true, named := ["unicode/utf8.first", "unicode/utf8.acceptRanges", "internal/bytealg.MaxLen", "internal/strconv.uint64pow10", "math/bits.deBruijn32tab", "math/bits.deBruijn64tab"], plainKeys := false, apart := false, laid := [("math/bits.deBruijn32tab", laid_math_bits_deBruijn32tab), ("math/bits.deBruijn64tab", laid_math_bits_deBruijn64tab), ("internal/strconv.uint64pow10", laid_internal_strconv_uint64pow10), ("unicode/utf8.acceptRanges", laid_unicode_utf8_acceptRanges), ("unicode/utf8.first", laid_unicode_utf8_first)], narrowed := true }
def JointSpoiltUptoSaid : Prop := jointSpoiltUptoRow.holds Tryz.pinned (OpenSpec.upto jointSpoiltSpec)

end Rows
end Go.Proofs.YtmnocohggpmjcaaGreatDoor
