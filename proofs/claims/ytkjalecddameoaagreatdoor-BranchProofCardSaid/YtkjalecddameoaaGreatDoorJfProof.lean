import Derived.Test.YtkjalecddameoaaGreatDoorRows
import Derived.Stop.Joined
import Derived.JoinedOf
set_option linter.all false
namespace Go.Proofs.YtkjalecddameoaaGreatDoor
open Go Go.Proofs
set_option maxRecDepth 100000
theorem jf0:(Rows.branchProofRow.wf (OpenSpec.ofChange Rows.branchProofSpec))=true:=by kernel_rfl
theorem jf1:(laidOutB Tryz.prog)=true:=by kernel_rfl
theorem jf2:(mapsRowed Tryz.prog)=true:=by kernel_rfl
theorem jf3:(Tryz.f16.params.all (Tryz.prog.readableRec ·))=true:=by kernel_rfl
theorem jf4:(namedTie Tryz.prog Rows.branchProofRow.named Rows.branchProofSpec.vars)=true:=by kernel_rfl
theorem jf5:((Rows.branchProofRow.stops==[]))=true:=by kernel_rfl
theorem jf6:((Tryz.prog.stops==[]))=true:=by kernel_rfl
theorem jf7:((Rows.branchProofRow.knobs==[]))=true:=by kernel_rfl
theorem jf8:((Tryz.prog.stopKnobs==[]))=true:=by kernel_rfl
theorem jf9:((Rows.branchProofRow.inPlace==Tryz.prog.inPlace 16))=true:=by kernel_rfl
theorem jf10:((Rows.branchProofRow.unfollowed==Tryz.prog.unfollowed 16))=true:=by kernel_rfl
theorem jf11:((Rows.branchProofRow.recurses==Tryz.prog.recurses 16))=true:=by kernel_rfl
theorem jf12:((Rows.branchProofRow.named==Tryz.prog.varsNamed 16))=true:=by kernel_rfl
theorem jf13:((Rows.branchProofRow.maps==(Tryz.f16.params.toList++Rows.branchProofSpec.plain.varTypes Tryz.prog).any (Tryz.prog.mapsRec ·)))=true:=by kernel_rfl
theorem jf14:((Rows.branchProofRow.ifaces==(Tryz.f16.params.toList++Rows.branchProofSpec.plain.varTypes Tryz.prog).any (Tryz.prog.ifacesRec ·)))=true:=by kernel_rfl
theorem jf15:((Rows.branchProofRow.mapsOut==Tryz.prog.mapsAmong Tryz.f16.resultTypes.toList))=true:=by kernel_rfl
theorem jf16:((Rows.branchProofRow.loops==(Tryz.f16.params.toList++Rows.branchProofSpec.plain.varTypes Tryz.prog).any (Tryz.prog.loopsFrom ·)))=true:=by kernel_rfl
theorem jf17:((Rows.branchProofRow.wideKeys==(Tryz.f16.params.toList++Rows.branchProofSpec.plain.varTypes Tryz.prog++Tryz.f16.resultTypes.toList).any (Tryz.prog.wideKeysFrom ·)))=true:=by kernel_rfl
theorem jf18:(Rows.branchProofSpec.vars.all (Tryz.prog.varReadable ·))=true:=by kernel_rfl
theorem jf19:(Tryz.f16.resultTypes.all (fun t=>Tryz.prog.readableRec t&&decide (t<Tryz.prog.types.size)))=true:=by kernel_rfl
theorem jf20:((Rows.branchProofRow.ifacesOut==Tryz.f16.resultTypes.toList.any (Tryz.prog.ifacesRec ·)))=true:=by kernel_rfl
theorem jf21:((Rows.branchProofRow.loopsOut==Tryz.f16.resultTypes.toList.any (Tryz.prog.loopsFrom ·)))=true:=by kernel_rfl
theorem jf22:((Rows.branchProofRow.plainKeys==Tryz.prog.plainKeys))=true:=by kernel_rfl
theorem jf23:(Rows.branchProofRow.shortTexts.isNone)=true:=by kernel_rfl
theorem jf24:(Tryz.prog.stopsHeard)=true:=by kernel_rfl
theorem jf25:(Tryz.prog.mayEnter)=true:=by kernel_rfl
theorem jf26:((Rows.branchProofRow.lifted==Tryz.prog.liftsFinal))=true:=by kernel_rfl
theorem jf27:((Tryz.prog.make==some Rows.branchProofRow.make))=true:=by kernel_rfl
theorem jf28:((Rows.branchProofRow.kinds==(if Rows.branchProofRow.domain.isEmpty then[]else Tryz.f16.params.toList.map fun t=>match Tryz.prog.underlying t with|some (.int k)=>some k|_=>none)))=true:=by kernel_rfl
theorem jf29:((Rows.branchProofRow.pinned==Rows.branchProofRow.pinnedBy))=true:=by kernel_rfl
theorem jf30:((Rows.branchProofRow.veiled==(Tryz.f16.params.toList++Rows.branchProofSpec.plain.varTypes Tryz.prog++Tryz.f16.resultTypes.toList).any (Tryz.prog.veiledRec ·)))=true:=by kernel_rfl
theorem jf31:(Rows.branchProofRow.veiledFits Tryz.prog Tryz.f16.params.toList (Tryz.f16.params.toList++Rows.branchProofSpec.plain.varTypes Tryz.prog++Tryz.f16.resultTypes.toList))=true:=by kernel_rfl
theorem jfacts:joinedFacts Tryz.prog 16 Tryz.f16 Rows.branchProofSpec Rows.branchProofRow=true:=by
 unfold joinedFacts;simp only[Bool.and_eq_true];exact⟨⟨⟨⟨⟨⟨⟨⟨⟨⟨⟨⟨⟨⟨⟨⟨⟨⟨⟨⟨⟨⟨⟨⟨⟨⟨⟨⟨⟨⟨⟨jf0,jf1⟩,jf2⟩,jf3⟩,jf4⟩,jf5⟩,jf6⟩,jf7⟩,jf8⟩,jf9⟩,jf10⟩,jf11⟩,jf12⟩,jf13⟩,jf14⟩,jf15⟩,jf16⟩,jf17⟩,jf18⟩,jf19⟩,jf20⟩,jf21⟩,jf22⟩,jf23⟩,jf24⟩,jf25⟩,jf26⟩,jf27⟩,jf28⟩,jf29⟩,jf30⟩,jf31⟩
end Go.Proofs.YtkjalecddameoaaGreatDoor
