/- The closed facts of the row of BranchMore. -/
import Derived.Test.YtkjalecddameoaaGreatDoorRows
import Derived.Stop.Joined
import Derived.JoinedOf
set_option linter.all false
namespace Go.Proofs.YtkjalecddameoaaGreatDoor
open Go Go.Proofs
set_option maxRecDepth 100000
theorem jf0:(Rows.branchMoreRow.wf (OpenSpec.ofChange Rows.branchMoreSpec))=true:=by kernel_rfl
theorem jf1:(laidOutB Tryz.prog)=true:=by kernel_rfl
theorem jf2:(mapsRowed Tryz.prog)=true:=by kernel_rfl
theorem jf3:(Tryz.f11.params.all (Tryz.prog.readableRec ·))=true:=by kernel_rfl
theorem jf4:(namedTie Tryz.prog Rows.branchMoreRow.named Rows.branchMoreSpec.vars)=true:=by kernel_rfl
theorem jf5:((Rows.branchMoreRow.stops==[]))=true:=by kernel_rfl
theorem jf6:((Tryz.prog.stops==[]))=true:=by kernel_rfl
theorem jf7:((Rows.branchMoreRow.knobs==[]))=true:=by kernel_rfl
theorem jf8:((Tryz.prog.stopKnobs==[]))=true:=by kernel_rfl
theorem jf9:((Rows.branchMoreRow.inPlace==Tryz.prog.inPlace 11))=true:=by kernel_rfl
theorem jf10:((Rows.branchMoreRow.unfollowed==Tryz.prog.unfollowed 11))=true:=by kernel_rfl
theorem jf11:((Rows.branchMoreRow.recurses==Tryz.prog.recurses 11))=true:=by kernel_rfl
theorem jf12:((Rows.branchMoreRow.named==Tryz.prog.varsNamed 11))=true:=by kernel_rfl
theorem jf13:((Rows.branchMoreRow.maps==(Tryz.f11.params.toList++Rows.branchMoreSpec.plain.varTypes Tryz.prog).any (Tryz.prog.mapsRec ·)))=true:=by kernel_rfl
theorem jf14:((Rows.branchMoreRow.ifaces==(Tryz.f11.params.toList++Rows.branchMoreSpec.plain.varTypes Tryz.prog).any (Tryz.prog.ifacesRec ·)))=true:=by kernel_rfl
theorem jf15:((Rows.branchMoreRow.mapsOut==Tryz.prog.mapsAmong Tryz.f11.resultTypes.toList))=true:=by kernel_rfl
theorem jf16:((Rows.branchMoreRow.loops==(Tryz.f11.params.toList++Rows.branchMoreSpec.plain.varTypes Tryz.prog).any (Tryz.prog.loopsFrom ·)))=true:=by kernel_rfl
theorem jf17:((Rows.branchMoreRow.wideKeys==(Tryz.f11.params.toList++Rows.branchMoreSpec.plain.varTypes Tryz.prog++Tryz.f11.resultTypes.toList).any (Tryz.prog.wideKeysFrom ·)))=true:=by kernel_rfl
theorem jf18:(Rows.branchMoreSpec.vars.all (Tryz.prog.varReadable ·))=true:=by kernel_rfl
theorem jf19:(Tryz.f11.resultTypes.all (fun t=>Tryz.prog.readableRec t&&decide (t<Tryz.prog.types.size)))=true:=by kernel_rfl
theorem jf20:((Rows.branchMoreRow.ifacesOut==Tryz.f11.resultTypes.toList.any (Tryz.prog.ifacesRec ·)))=true:=by kernel_rfl
theorem jf21:((Rows.branchMoreRow.loopsOut==Tryz.f11.resultTypes.toList.any (Tryz.prog.loopsFrom ·)))=true:=by kernel_rfl
theorem jf22:((Rows.branchMoreRow.plainKeys==Tryz.prog.plainKeys))=true:=by kernel_rfl
theorem jf23:(Rows.branchMoreRow.shortTexts.isNone)=true:=by kernel_rfl
theorem jf24:(Tryz.prog.stopsHeard)=true:=by kernel_rfl
theorem jf25:(Tryz.prog.mayEnter)=true:=by kernel_rfl
theorem jf26:((Rows.branchMoreRow.lifted==Tryz.prog.liftsFinal))=true:=by kernel_rfl
theorem jf27:((Tryz.prog.make==some Rows.branchMoreRow.make))=true:=by kernel_rfl
theorem jf28:((Rows.branchMoreRow.kinds==(if Rows.branchMoreRow.domain.isEmpty then[]else Tryz.f11.params.toList.map fun t=>match Tryz.prog.underlying t with|some (.int k)=>some k|_=>none)))=true:=by kernel_rfl
theorem jf29:((Rows.branchMoreRow.pinned==Rows.branchMoreRow.pinnedBy))=true:=by kernel_rfl
theorem jf30:((Rows.branchMoreRow.veiled==(Tryz.f11.params.toList++Rows.branchMoreSpec.plain.varTypes Tryz.prog++Tryz.f11.resultTypes.toList).any (Tryz.prog.veiledRec ·)))=true:=by kernel_rfl
theorem jf31:(Rows.branchMoreRow.veiledFits Tryz.prog Tryz.f11.params.toList (Tryz.f11.params.toList++Rows.branchMoreSpec.plain.varTypes Tryz.prog++Tryz.f11.resultTypes.toList))=true:=by kernel_rfl
theorem jfacts:joinedFacts Tryz.prog 11 Tryz.f11 Rows.branchMoreSpec Rows.branchMoreRow=true:=by
 unfold joinedFacts
 simp only[Bool.and_eq_true]
 exact⟨⟨⟨⟨⟨⟨⟨⟨⟨⟨⟨⟨⟨⟨⟨⟨⟨⟨⟨⟨⟨⟨⟨⟨⟨⟨⟨⟨⟨⟨⟨jf0,jf1⟩,jf2⟩,jf3⟩,jf4⟩,jf5⟩,jf6⟩,jf7⟩,jf8⟩,jf9⟩,jf10⟩,jf11⟩,jf12⟩,jf13⟩,jf14⟩,jf15⟩,jf16⟩,jf17⟩,jf18⟩,jf19⟩,jf20⟩,jf21⟩,jf22⟩,jf23⟩,jf24⟩,jf25⟩,jf26⟩,jf27⟩,jf28⟩,jf29⟩,jf30⟩,jf31⟩
end Go.Proofs.YtkjalecddameoaaGreatDoor
