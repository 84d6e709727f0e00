/- The closed facts of the row of JointReads. -/
import Derived.Test.YtmnocohggpmjcaaGreatDoorRows
import Derived.Stop.Joined
import Derived.JoinedOf
set_option linter.all false
namespace Go.Proofs.YtmnocohggpmjcaaGreatDoor
open Go Go.Proofs
set_option maxRecDepth 100000
theorem jf0 : (Rows.jointReadsRow.wf (OpenSpec.ofChange Rows.jointReadsSpec)) = true := by kernel_rfl
theorem jf1 : (laidOutB Tryz.prog) = true := by kernel_rfl
theorem jf2 : (mapsRowed Tryz.prog) = true := by kernel_rfl
theorem jf3 : (Tryz.f23.params.all (Tryz.prog.readableRec ·)) = true := by kernel_rfl
theorem jf4 : (namedTie Tryz.prog Rows.jointReadsRow.named Rows.jointReadsSpec.vars) = true := by kernel_rfl
theorem jf5 : ((Rows.jointReadsRow.stops == [])) = true := by kernel_rfl
theorem jf6 : ((Tryz.prog.stops == [])) = true := by kernel_rfl
theorem jf7 : ((Rows.jointReadsRow.knobs == [])) = true := by kernel_rfl
theorem jf8 : ((Tryz.prog.stopKnobs == [])) = true := by kernel_rfl
theorem jf9 : ((Rows.jointReadsRow.inPlace == Tryz.prog.inPlace 23)) = true := by kernel_rfl
theorem jf10 : ((Rows.jointReadsRow.unfollowed == Tryz.prog.unfollowed 23)) = true := by kernel_rfl
theorem jf11 : ((Rows.jointReadsRow.recurses == Tryz.prog.recurses 23)) = true := by kernel_rfl
theorem jf12 : ((Rows.jointReadsRow.named == Tryz.prog.varsNamed 23)) = true := by kernel_rfl
theorem jf13 : ((Rows.jointReadsRow.maps == (Tryz.f23.params.toList ++ Rows.jointReadsSpec.plain.varTypes Tryz.prog).any (Tryz.prog.mapsRec ·))) = true := by kernel_rfl
theorem jf14 : ((Rows.jointReadsRow.ifaces == (Tryz.f23.params.toList ++ Rows.jointReadsSpec.plain.varTypes Tryz.prog).any (Tryz.prog.ifacesRec ·))) = true := by kernel_rfl
theorem jf15 : ((Rows.jointReadsRow.mapsOut == Tryz.prog.mapsAmong Tryz.f23.resultTypes.toList)) = true := by kernel_rfl
theorem jf16 : ((Rows.jointReadsRow.loops == (Tryz.f23.params.toList ++ Rows.jointReadsSpec.plain.varTypes Tryz.prog).any (Tryz.prog.loopsFrom ·))) = true := by kernel_rfl
theorem jf17 : ((Rows.jointReadsRow.wideKeys == (Tryz.f23.params.toList ++ Rows.jointReadsSpec.plain.varTypes Tryz.prog ++ Tryz.f23.resultTypes.toList).any (Tryz.prog.wideKeysFrom ·))) = true := by kernel_rfl
theorem jf18 : (Rows.jointReadsSpec.vars.all (Tryz.prog.varReadable ·)) = true := by kernel_rfl
theorem jf19 : (Tryz.f23.resultTypes.all (fun t => Tryz.prog.readableRec t && decide (t < Tryz.prog.types.size))) = true := by kernel_rfl
theorem jf20 : ((Rows.jointReadsRow.ifacesOut == Tryz.f23.resultTypes.toList.any (Tryz.prog.ifacesRec ·))) = true := by kernel_rfl
theorem jf21 : ((Rows.jointReadsRow.loopsOut == Tryz.f23.resultTypes.toList.any (Tryz.prog.loopsFrom ·))) = true := by kernel_rfl
theorem jf22 : ((Rows.jointReadsRow.plainKeys == Tryz.prog.plainKeys)) = true := by kernel_rfl
theorem jf23 : (Rows.jointReadsRow.shortTexts.isNone) = true := by kernel_rfl
theorem jf24 : (Tryz.prog.stopsHeard) = true := by kernel_rfl
theorem jf25 : (Tryz.prog.mayEnter) = true := by kernel_rfl
theorem jf26 : ((Rows.jointReadsRow.lifted == Tryz.prog.liftsFinal)) = true := by kernel_rfl
theorem jf27 : ((Tryz.prog.make == some Rows.jointReadsRow.make)) = true := by kernel_rfl
theorem jf28 : ((Rows.jointReadsRow.kinds == (if Rows.jointReadsRow.domain.isEmpty then [] else Tryz.f23.params.toList.map fun t => match Tryz.prog.underlying t with | some (.int k) => some k | _ => none))) = true := by kernel_rfl
theorem jf29 : ((Rows.jointReadsRow.pinned == Rows.jointReadsRow.pinnedBy)) = true := by kernel_rfl
theorem jf30 : ((Rows.jointReadsRow.veiled == (Tryz.f23.params.toList ++ Rows.jointReadsSpec.plain.varTypes Tryz.prog ++ Tryz.f23.resultTypes.toList).any (Tryz.prog.veiledRec ·))) = true := by kernel_rfl
theorem jf31 : (Rows.jointReadsRow.veiledFits Tryz.prog Tryz.f23.params.toList (Tryz.f23.params.toList ++ Rows.jointReadsSpec.plain.varTypes Tryz.prog ++ Tryz.f23.resultTypes.toList)) = true := by kernel_rfl
theorem jfacts : joinedFacts Tryz.prog 23 Tryz.f23 Rows.jointReadsSpec Rows.jointReadsRow = true := by
  unfold joinedFacts
  simp only [Bool.and_eq_true]
  exact ⟨⟨⟨⟨⟨⟨⟨⟨⟨⟨⟨⟨⟨⟨⟨⟨⟨⟨⟨⟨⟨⟨⟨⟨⟨⟨⟨⟨⟨⟨⟨jf0, jf1⟩, jf2⟩, jf3⟩, jf4⟩, jf5⟩, jf6⟩, jf7⟩, jf8⟩, jf9⟩, jf10⟩, jf11⟩, jf12⟩, jf13⟩, jf14⟩, jf15⟩, jf16⟩, jf17⟩, jf18⟩, jf19⟩, jf20⟩, jf21⟩, jf22⟩, jf23⟩, jf24⟩, jf25⟩, jf26⟩, jf27⟩, jf28⟩, jf29⟩, jf30⟩, jf31⟩
end Go.Proofs.YtmnocohggpmjcaaGreatDoor
