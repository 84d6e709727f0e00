/- The closed facts of the row of BranchReads. -/
import Derived.Test.YtkjalecddameoaaGreatDoorRows
import Derived.Stop.Joined
import Derived.JoinedOf
set_option linter.all false
namespace Go.Proofs.YtkjalecddameoaaGreatDoor
open Go Go.Proofs
set_option maxRecDepth 100000
theorem jf0:(Rows.branchReadsRow.wf (OpenSpec.ofChange Rows.branchReadsSpec)) = true:=by kernel_rfl
theorem jf1:(laidOutB Tryz.prog) = true:=by kernel_rfl
theorem jf2:(mapsRowed Tryz.prog) = true:=by kernel_rfl
theorem jf3:(Tryz.f14.params.all (Tryz.prog.readableRec ·)) = true:=by kernel_rfl
theorem jf4:(namedTie Tryz.prog Rows.branchReadsRow.named Rows.branchReadsSpec.vars) = true:=by kernel_rfl
theorem jf5:((Rows.branchReadsRow.stops == [])) = true:=by kernel_rfl
theorem jf6:((Tryz.prog.stops == [])) = true:=by kernel_rfl
theorem jf7:((Rows.branchReadsRow.knobs == [])) = true:=by kernel_rfl
theorem jf8:((Tryz.prog.stopKnobs == [])) = true:=by kernel_rfl
theorem jf9:((Rows.branchReadsRow.inPlace == Tryz.prog.inPlace 14)) = true:=by kernel_rfl
theorem jf10:((Rows.branchReadsRow.unfollowed == Tryz.prog.unfollowed 14)) = true:=by kernel_rfl
theorem jf11:((Rows.branchReadsRow.recurses == Tryz.prog.recurses 14)) = true:=by kernel_rfl
theorem jf12:((Rows.branchReadsRow.named == Tryz.prog.varsNamed 14)) = true:=by kernel_rfl
theorem jf13:((Rows.branchReadsRow.maps == (Tryz.f14.params.toList ++ Rows.branchReadsSpec.plain.varTypes Tryz.prog).any (Tryz.prog.mapsRec ·))) = true:=by kernel_rfl
theorem jf14:((Rows.branchReadsRow.ifaces == (Tryz.f14.params.toList ++ Rows.branchReadsSpec.plain.varTypes Tryz.prog).any (Tryz.prog.ifacesRec ·))) = true:=by kernel_rfl
theorem jf15:((Rows.branchReadsRow.mapsOut == Tryz.prog.mapsAmong Tryz.f14.resultTypes.toList)) = true:=by kernel_rfl
theorem jf16:((Rows.branchReadsRow.loops == (Tryz.f14.params.toList ++ Rows.branchReadsSpec.plain.varTypes Tryz.prog).any (Tryz.prog.loopsFrom ·))) = true:=by kernel_rfl
theorem jf17:((Rows.branchReadsRow.wideKeys == (Tryz.f14.params.toList ++ Rows.branchReadsSpec.plain.varTypes Tryz.prog ++ Tryz.f14.resultTypes.toList).any (Tryz.prog.wideKeysFrom ·))) = true:=by kernel_rfl
theorem jf18:(Rows.branchReadsSpec.vars.all (Tryz.prog.varReadable ·)) = true:=by kernel_rfl
theorem jf19:(Tryz.f14.resultTypes.all (fun t=>Tryz.prog.readableRec t && decide (t < Tryz.prog.types.size))) = true:=by kernel_rfl
theorem jf20:((Rows.branchReadsRow.ifacesOut == Tryz.f14.resultTypes.toList.any (Tryz.prog.ifacesRec ·))) = true:=by kernel_rfl
theorem jf21:((Rows.branchReadsRow.loopsOut == Tryz.f14.resultTypes.toList.any (Tryz.prog.loopsFrom ·))) = true:=by kernel_rfl
theorem jf22:((Rows.branchReadsRow.plainKeys == Tryz.prog.plainKeys)) = true:=by kernel_rfl
theorem jf23:(Rows.branchReadsRow.shortTexts.isNone) = true:=by kernel_rfl
theorem jf24:(Tryz.prog.stopsHeard) = true:=by kernel_rfl
theorem jf25:(Tryz.prog.mayEnter) = true:=by kernel_rfl
theorem jf26:((Rows.branchReadsRow.lifted == Tryz.prog.liftsFinal)) = true:=by kernel_rfl
theorem jf27:((Tryz.prog.make == some Rows.branchReadsRow.make)) = true:=by kernel_rfl
theorem jf28:((Rows.branchReadsRow.kinds == (if Rows.branchReadsRow.domain.isEmpty then [] else Tryz.f14.params.toList.map fun t=>match Tryz.prog.underlying t with | some (.int k)=>some k | _=>none))) = true:=by kernel_rfl
theorem jf29:((Rows.branchReadsRow.pinned == Rows.branchReadsRow.pinnedBy)) = true:=by kernel_rfl
theorem jf30:((Rows.branchReadsRow.veiled == (Tryz.f14.params.toList ++ Rows.branchReadsSpec.plain.varTypes Tryz.prog ++ Tryz.f14.resultTypes.toList).any (Tryz.prog.veiledRec ·))) = true:=by kernel_rfl
theorem jf31:(Rows.branchReadsRow.veiledFits Tryz.prog Tryz.f14.params.toList (Tryz.f14.params.toList ++ Rows.branchReadsSpec.plain.varTypes Tryz.prog ++ Tryz.f14.resultTypes.toList)) = true:=by kernel_rfl
theorem jfacts:joinedFacts Tryz.prog 14 Tryz.f14 Rows.branchReadsSpec Rows.branchReadsRow = true:=by
 unfold joinedFacts
 simp only [Bool.and_eq_true]
 exact ⟨⟨⟨⟨⟨⟨⟨⟨⟨⟨⟨⟨⟨⟨⟨⟨⟨⟨⟨⟨⟨⟨⟨⟨⟨⟨⟨⟨⟨⟨⟨jf0,jf1⟩,jf2⟩,jf3⟩,jf4⟩,jf5⟩,jf6⟩,jf7⟩,jf8⟩,jf9⟩,jf10⟩,jf11⟩,jf12⟩,jf13⟩,jf14⟩,jf15⟩,jf16⟩,jf17⟩,jf18⟩,jf19⟩,jf20⟩,jf21⟩,jf22⟩,jf23⟩,jf24⟩,jf25⟩,jf26⟩,jf27⟩,jf28⟩,jf29⟩,jf30⟩,jf31⟩
end Go.Proofs.YtkjalecddameoaaGreatDoor
