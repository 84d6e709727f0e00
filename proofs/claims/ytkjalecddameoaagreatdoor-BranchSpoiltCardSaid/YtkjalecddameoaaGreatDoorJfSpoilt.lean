/- The closed facts of the row of BranchSpoilt. -/
import Derived.Test.YtkjalecddameoaaGreatDoorRows
import Derived.Stop.Joined
import Derived.JoinedOf
set_option linter.all false
namespace Go.Proofs.YtkjalecddameoaaGreatDoor
open Go Go.Proofs
set_option maxRecDepth 100000
theorem jf0:(Rows.branchSpoiltRow.wf (OpenSpec.ofChange Rows.branchSpoiltSpec)) = true:=by kernel_rfl
theorem jf1:(laidOutB Tryz.prog) = true:=by kernel_rfl
theorem jf2:(mapsRowed Tryz.prog) = true:=by kernel_rfl
theorem jf3:(Tryz.f15.params.all (Tryz.prog.readableRec ·)) = true:=by kernel_rfl
theorem jf4:(namedTie Tryz.prog Rows.branchSpoiltRow.named Rows.branchSpoiltSpec.vars) = true:=by kernel_rfl
theorem jf5:((Rows.branchSpoiltRow.stops == [])) = true:=by kernel_rfl
theorem jf6:((Tryz.prog.stops == [])) = true:=by kernel_rfl
theorem jf7:((Rows.branchSpoiltRow.knobs == [])) = true:=by kernel_rfl
theorem jf8:((Tryz.prog.stopKnobs == [])) = true:=by kernel_rfl
theorem jf9:((Rows.branchSpoiltRow.inPlace == Tryz.prog.inPlace 15)) = true:=by kernel_rfl
theorem jf10:((Rows.branchSpoiltRow.unfollowed == Tryz.prog.unfollowed 15)) = true:=by kernel_rfl
theorem jf11:((Rows.branchSpoiltRow.recurses == Tryz.prog.recurses 15)) = true:=by kernel_rfl
theorem jf12:((Rows.branchSpoiltRow.named == Tryz.prog.varsNamed 15)) = true:=by kernel_rfl
theorem jf13:((Rows.branchSpoiltRow.maps == (Tryz.f15.params.toList ++ Rows.branchSpoiltSpec.plain.varTypes Tryz.prog).any (Tryz.prog.mapsRec ·))) = true:=by kernel_rfl
theorem jf14:((Rows.branchSpoiltRow.ifaces == (Tryz.f15.params.toList ++ Rows.branchSpoiltSpec.plain.varTypes Tryz.prog).any (Tryz.prog.ifacesRec ·))) = true:=by kernel_rfl
theorem jf15:((Rows.branchSpoiltRow.mapsOut == Tryz.prog.mapsAmong Tryz.f15.resultTypes.toList)) = true:=by kernel_rfl
theorem jf16:((Rows.branchSpoiltRow.loops == (Tryz.f15.params.toList ++ Rows.branchSpoiltSpec.plain.varTypes Tryz.prog).any (Tryz.prog.loopsFrom ·))) = true:=by kernel_rfl
theorem jf17:((Rows.branchSpoiltRow.wideKeys == (Tryz.f15.params.toList ++ Rows.branchSpoiltSpec.plain.varTypes Tryz.prog ++ Tryz.f15.resultTypes.toList).any (Tryz.prog.wideKeysFrom ·))) = true:=by kernel_rfl
theorem jf18:(Rows.branchSpoiltSpec.vars.all (Tryz.prog.varReadable ·)) = true:=by kernel_rfl
theorem jf19:(Tryz.f15.resultTypes.all (fun t=>Tryz.prog.readableRec t && decide (t < Tryz.prog.types.size))) = true:=by kernel_rfl
theorem jf20:((Rows.branchSpoiltRow.ifacesOut == Tryz.f15.resultTypes.toList.any (Tryz.prog.ifacesRec ·))) = true:=by kernel_rfl
theorem jf21:((Rows.branchSpoiltRow.loopsOut == Tryz.f15.resultTypes.toList.any (Tryz.prog.loopsFrom ·))) = true:=by kernel_rfl
theorem jf22:((Rows.branchSpoiltRow.plainKeys == Tryz.prog.plainKeys)) = true:=by kernel_rfl
theorem jf23:(Rows.branchSpoiltRow.shortTexts.isNone) = true:=by kernel_rfl
theorem jf24:(Tryz.prog.stopsHeard) = true:=by kernel_rfl
theorem jf25:(Tryz.prog.mayEnter) = true:=by kernel_rfl
theorem jf26:((Rows.branchSpoiltRow.lifted == Tryz.prog.liftsFinal)) = true:=by kernel_rfl
theorem jf27:((Tryz.prog.make == some Rows.branchSpoiltRow.make)) = true:=by kernel_rfl
theorem jf28:((Rows.branchSpoiltRow.kinds == (if Rows.branchSpoiltRow.domain.isEmpty then [] else Tryz.f15.params.toList.map fun t=>match Tryz.prog.underlying t with | some (.int k)=>some k | _=>none))) = true:=by kernel_rfl
theorem jf29:((Rows.branchSpoiltRow.pinned == Rows.branchSpoiltRow.pinnedBy)) = true:=by kernel_rfl
theorem jf30:((Rows.branchSpoiltRow.veiled == (Tryz.f15.params.toList ++ Rows.branchSpoiltSpec.plain.varTypes Tryz.prog ++ Tryz.f15.resultTypes.toList).any (Tryz.prog.veiledRec ·))) = true:=by kernel_rfl
theorem jf31:(Rows.branchSpoiltRow.veiledFits Tryz.prog Tryz.f15.params.toList (Tryz.f15.params.toList ++ Rows.branchSpoiltSpec.plain.varTypes Tryz.prog ++ Tryz.f15.resultTypes.toList)) = true:=by kernel_rfl
theorem jfacts:joinedFacts Tryz.prog 15 Tryz.f15 Rows.branchSpoiltSpec Rows.branchSpoiltRow = true:=by
 unfold joinedFacts
 simp only [Bool.and_eq_true]
 exact ⟨⟨⟨⟨⟨⟨⟨⟨⟨⟨⟨⟨⟨⟨⟨⟨⟨⟨⟨⟨⟨⟨⟨⟨⟨⟨⟨⟨⟨⟨⟨jf0,jf1⟩,jf2⟩,jf3⟩,jf4⟩,jf5⟩,jf6⟩,jf7⟩,jf8⟩,jf9⟩,jf10⟩,jf11⟩,jf12⟩,jf13⟩,jf14⟩,jf15⟩,jf16⟩,jf17⟩,jf18⟩,jf19⟩,jf20⟩,jf21⟩,jf22⟩,jf23⟩,jf24⟩,jf25⟩,jf26⟩,jf27⟩,jf28⟩,jf29⟩,jf30⟩,jf31⟩
end Go.Proofs.YtkjalecddameoaaGreatDoor
