import Derived.Test.YtkjalecddameoaaGreatDoorRows
import Derived.Stop.Joined
import Derived.JoinedOf
set_option linter.all false
namespace Go.Proofs.YtkjalecddameoaaGreatDoor
open Go Go.Proofs
set_option maxRecDepth 100000
theorem jf0:(Rows.branchBegunRow.wf (OpenSpec.ofChange Rows.branchBegunSpec))=true:=by kernel_rfl
theorem jf1:(laidOutB Tryz.prog)=true:=by kernel_rfl
theorem jf2:(mapsRowed Tryz.prog)=true:=by kernel_rfl
theorem jf3:(Tryz.f18.params.all (Tryz.prog.readableRec ·))=true:=by kernel_rfl
theorem jf4:(namedTie Tryz.prog Rows.branchBegunRow.named Rows.branchBegunSpec.vars)=true:=by kernel_rfl
theorem jf5:((Rows.branchBegunRow.stops==[]))=true:=by kernel_rfl
theorem jf6:((Tryz.prog.stops==[]))=true:=by kernel_rfl
theorem jf7:((Rows.branchBegunRow.knobs==[]))=true:=by kernel_rfl
theorem jf8:((Tryz.prog.stopKnobs==[]))=true:=by kernel_rfl
theorem jf9:((Rows.branchBegunRow.inPlace==Tryz.prog.inPlace 18))=true:=by kernel_rfl
theorem jf10:((Rows.branchBegunRow.unfollowed==Tryz.prog.unfollowed 18))=true:=by kernel_rfl
theorem jf11:((Rows.branchBegunRow.recurses==Tryz.prog.recurses 18))=true:=by kernel_rfl
theorem jf12:((Rows.branchBegunRow.named==Tryz.prog.varsNamed 18))=true:=by kernel_rfl
theorem jf13:((Rows.branchBegunRow.maps==(Tryz.f18.params.toList++Rows.branchBegunSpec.plain.varTypes Tryz.prog).any (Tryz.prog.mapsRec ·)))=true:=by kernel_rfl
theorem jf14:((Rows.branchBegunRow.ifaces==(Tryz.f18.params.toList++Rows.branchBegunSpec.plain.varTypes Tryz.prog).any (Tryz.prog.ifacesRec ·)))=true:=by kernel_rfl
theorem jf15:((Rows.branchBegunRow.mapsOut==Tryz.prog.mapsAmong Tryz.f18.resultTypes.toList))=true:=by kernel_rfl
theorem jf16:((Rows.branchBegunRow.loops==(Tryz.f18.params.toList++Rows.branchBegunSpec.plain.varTypes Tryz.prog).any (Tryz.prog.loopsFrom ·)))=true:=by kernel_rfl
theorem jf17:((Rows.branchBegunRow.wideKeys==(Tryz.f18.params.toList++Rows.branchBegunSpec.plain.varTypes Tryz.prog++Tryz.f18.resultTypes.toList).any (Tryz.prog.wideKeysFrom ·)))=true:=by kernel_rfl
theorem jf18:(Rows.branchBegunSpec.vars.all (Tryz.prog.varReadable ·))=true:=by kernel_rfl
theorem jf19:(Tryz.f18.resultTypes.all (fun t=>Tryz.prog.readableRec t&&decide (t<Tryz.prog.types.size)))=true:=by kernel_rfl
theorem jf20:((Rows.branchBegunRow.ifacesOut==Tryz.f18.resultTypes.toList.any (Tryz.prog.ifacesRec ·)))=true:=by kernel_rfl
theorem jf21:((Rows.branchBegunRow.loopsOut==Tryz.f18.resultTypes.toList.any (Tryz.prog.loopsFrom ·)))=true:=by kernel_rfl
theorem jf22:((Rows.branchBegunRow.plainKeys==Tryz.prog.plainKeys))=true:=by kernel_rfl
theorem jf23:(Rows.branchBegunRow.shortTexts.isNone)=true:=by kernel_rfl
theorem jf24:(Tryz.prog.stopsHeard)=true:=by kernel_rfl
theorem jf25:(Tryz.prog.mayEnter)=true:=by kernel_rfl
theorem jf26:((Rows.branchBegunRow.lifted==Tryz.prog.liftsFinal))=true:=by kernel_rfl
theorem jf27:((Tryz.prog.make==some Rows.branchBegunRow.make))=true:=by kernel_rfl
theorem jf28:((Rows.branchBegunRow.kinds==(if Rows.branchBegunRow.domain.isEmpty then[]else Tryz.f18.params.toList.map fun t=>match Tryz.prog.underlying t with|some (.int k)=>some k|_=>none)))=true:=by kernel_rfl
theorem jf29:((Rows.branchBegunRow.pinned==Rows.branchBegunRow.pinnedBy))=true:=by kernel_rfl
theorem jf30:((Rows.branchBegunRow.veiled==(Tryz.f18.params.toList++Rows.branchBegunSpec.plain.varTypes Tryz.prog++Tryz.f18.resultTypes.toList).any (Tryz.prog.veiledRec ·)))=true:=by kernel_rfl
theorem jf31:(Rows.branchBegunRow.veiledFits Tryz.prog Tryz.f18.params.toList (Tryz.f18.params.toList++Rows.branchBegunSpec.plain.varTypes Tryz.prog++Tryz.f18.resultTypes.toList))=true:=by kernel_rfl
theorem jfacts:joinedFacts Tryz.prog 18 Tryz.f18 Rows.branchBegunSpec Rows.branchBegunRow=true:=by
 unfold joinedFacts;simp only[Bool.and_eq_true];exact⟨⟨⟨⟨⟨⟨⟨⟨⟨⟨⟨⟨⟨⟨⟨⟨⟨⟨⟨⟨⟨⟨⟨⟨⟨⟨⟨⟨⟨⟨⟨jf0,jf1⟩,jf2⟩,jf3⟩,jf4⟩,jf5⟩,jf6⟩,jf7⟩,jf8⟩,jf9⟩,jf10⟩,jf11⟩,jf12⟩,jf13⟩,jf14⟩,jf15⟩,jf16⟩,jf17⟩,jf18⟩,jf19⟩,jf20⟩,jf21⟩,jf22⟩,jf23⟩,jf24⟩,jf25⟩,jf26⟩,jf27⟩,jf28⟩,jf29⟩,jf30⟩,jf31⟩
end Go.Proofs.YtkjalecddameoaaGreatDoor
