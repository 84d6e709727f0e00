/- The closed facts of the row of BranchPrints. -/
import Derived.Test.YtkjalecddameoaaGreatDoorRows
import Derived.Stop.Joined
import Derived.JoinedOf
set_option linter.all false
namespace Go.Proofs.YtkjalecddameoaaGreatDoor
open Go Go.Proofs
set_option maxRecDepth 100000
theorem jf0:(Rows.branchPrintsRow.wf (OpenSpec.ofChange Rows.branchPrintsSpec)) = true:=by kernel_rfl
theorem jf1:(laidOutB Tryz.prog) = true:=by kernel_rfl
theorem jf2:(mapsRowed Tryz.prog) = true:=by kernel_rfl
theorem jf3:(Tryz.f13.params.all (Tryz.prog.readableRec ·)) = true:=by kernel_rfl
theorem jf4:(namedTie Tryz.prog Rows.branchPrintsRow.named Rows.branchPrintsSpec.vars) = true:=by kernel_rfl
theorem jf5:((Rows.branchPrintsRow.stops == [])) = true:=by kernel_rfl
theorem jf6:((Tryz.prog.stops == [])) = true:=by kernel_rfl
theorem jf7:((Rows.branchPrintsRow.knobs == [])) = true:=by kernel_rfl
theorem jf8:((Tryz.prog.stopKnobs == [])) = true:=by kernel_rfl
theorem jf9:((Rows.branchPrintsRow.inPlace == Tryz.prog.inPlace 13)) = true:=by kernel_rfl
theorem jf10:((Rows.branchPrintsRow.unfollowed == Tryz.prog.unfollowed 13)) = true:=by kernel_rfl
theorem jf11:((Rows.branchPrintsRow.recurses == Tryz.prog.recurses 13)) = true:=by kernel_rfl
theorem jf12:((Rows.branchPrintsRow.named == Tryz.prog.varsNamed 13)) = true:=by kernel_rfl
theorem jf13:((Rows.branchPrintsRow.maps == (Tryz.f13.params.toList ++ Rows.branchPrintsSpec.plain.varTypes Tryz.prog).any (Tryz.prog.mapsRec ·))) = true:=by kernel_rfl
theorem jf14:((Rows.branchPrintsRow.ifaces == (Tryz.f13.params.toList ++ Rows.branchPrintsSpec.plain.varTypes Tryz.prog).any (Tryz.prog.ifacesRec ·))) = true:=by kernel_rfl
theorem jf15:((Rows.branchPrintsRow.mapsOut == Tryz.prog.mapsAmong Tryz.f13.resultTypes.toList)) = true:=by kernel_rfl
theorem jf16:((Rows.branchPrintsRow.loops == (Tryz.f13.params.toList ++ Rows.branchPrintsSpec.plain.varTypes Tryz.prog).any (Tryz.prog.loopsFrom ·))) = true:=by kernel_rfl
theorem jf17:((Rows.branchPrintsRow.wideKeys == (Tryz.f13.params.toList ++ Rows.branchPrintsSpec.plain.varTypes Tryz.prog ++ Tryz.f13.resultTypes.toList).any (Tryz.prog.wideKeysFrom ·))) = true:=by kernel_rfl
theorem jf18:(Rows.branchPrintsSpec.vars.all (Tryz.prog.varReadable ·)) = true:=by kernel_rfl
theorem jf19:(Tryz.f13.resultTypes.all (fun t=>Tryz.prog.readableRec t && decide (t < Tryz.prog.types.size))) = true:=by kernel_rfl
theorem jf20:((Rows.branchPrintsRow.ifacesOut == Tryz.f13.resultTypes.toList.any (Tryz.prog.ifacesRec ·))) = true:=by kernel_rfl
theorem jf21:((Rows.branchPrintsRow.loopsOut == Tryz.f13.resultTypes.toList.any (Tryz.prog.loopsFrom ·))) = true:=by kernel_rfl
theorem jf22:((Rows.branchPrintsRow.plainKeys == Tryz.prog.plainKeys)) = true:=by kernel_rfl
theorem jf23:(Rows.branchPrintsRow.shortTexts.isNone) = true:=by kernel_rfl
theorem jf24:(Tryz.prog.stopsHeard) = true:=by kernel_rfl
theorem jf25:(Tryz.prog.mayEnter) = true:=by kernel_rfl
theorem jf26:((Rows.branchPrintsRow.lifted == Tryz.prog.liftsFinal)) = true:=by kernel_rfl
theorem jf27:((Tryz.prog.make == some Rows.branchPrintsRow.make)) = true:=by kernel_rfl
theorem jf28:((Rows.branchPrintsRow.kinds == (if Rows.branchPrintsRow.domain.isEmpty then [] else Tryz.f13.params.toList.map fun t=>match Tryz.prog.underlying t with | some (.int k)=>some k | _=>none))) = true:=by kernel_rfl
theorem jf29:((Rows.branchPrintsRow.pinned == Rows.branchPrintsRow.pinnedBy)) = true:=by kernel_rfl
theorem jf30:((Rows.branchPrintsRow.veiled == (Tryz.f13.params.toList ++ Rows.branchPrintsSpec.plain.varTypes Tryz.prog ++ Tryz.f13.resultTypes.toList).any (Tryz.prog.veiledRec ·))) = true:=by kernel_rfl
theorem jf31:(Rows.branchPrintsRow.veiledFits Tryz.prog Tryz.f13.params.toList (Tryz.f13.params.toList ++ Rows.branchPrintsSpec.plain.varTypes Tryz.prog ++ Tryz.f13.resultTypes.toList)) = true:=by kernel_rfl
theorem jfacts:joinedFacts Tryz.prog 13 Tryz.f13 Rows.branchPrintsSpec Rows.branchPrintsRow = true:=by
 unfold joinedFacts
 simp only [Bool.and_eq_true]
 exact ⟨⟨⟨⟨⟨⟨⟨⟨⟨⟨⟨⟨⟨⟨⟨⟨⟨⟨⟨⟨⟨⟨⟨⟨⟨⟨⟨⟨⟨⟨⟨jf0,jf1⟩,jf2⟩,jf3⟩,jf4⟩,jf5⟩,jf6⟩,jf7⟩,jf8⟩,jf9⟩,jf10⟩,jf11⟩,jf12⟩,jf13⟩,jf14⟩,jf15⟩,jf16⟩,jf17⟩,jf18⟩,jf19⟩,jf20⟩,jf21⟩,jf22⟩,jf23⟩,jf24⟩,jf25⟩,jf26⟩,jf27⟩,jf28⟩,jf29⟩,jf30⟩,jf31⟩
end Go.Proofs.YtkjalecddameoaaGreatDoor
