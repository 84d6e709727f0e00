/- The closed facts of the row of JointPrints. -/
import Derived.Test.YtmnocohggpmjcaaGreatDoorRows
import Derived.Stop.Joined
import Derived.JoinedOf
set_option linter.all false
namespace Go.Proofs.YtmnocohggpmjcaaGreatDoor
open Go Go.Proofs
set_option maxRecDepth 100000
theorem jf0 : (Rows.jointPrintsRow.wf (OpenSpec.ofChange Rows.jointPrintsSpec)) = true := by kernel_rfl
theorem jf1 : (laidOutB Tryz.prog) = true := by kernel_rfl
theorem jf2 : (mapsRowed Tryz.prog) = true := by kernel_rfl
theorem jf3 : (Tryz.f22.params.all (Tryz.prog.readableRec ·)) = true := by kernel_rfl
theorem jf4 : (namedTie Tryz.prog Rows.jointPrintsRow.named Rows.jointPrintsSpec.vars) = true := by kernel_rfl
theorem jf5 : ((Rows.jointPrintsRow.stops == [])) = true := by kernel_rfl
theorem jf6 : ((Tryz.prog.stops == [])) = true := by kernel_rfl
theorem jf7 : ((Rows.jointPrintsRow.knobs == [])) = true := by kernel_rfl
theorem jf8 : ((Tryz.prog.stopKnobs == [])) = true := by kernel_rfl
theorem jf9 : ((Rows.jointPrintsRow.inPlace == Tryz.prog.inPlace 22)) = true := by kernel_rfl
theorem jf10 : ((Rows.jointPrintsRow.unfollowed == Tryz.prog.unfollowed 22)) = true := by kernel_rfl
theorem jf11 : ((Rows.jointPrintsRow.recurses == Tryz.prog.recurses 22)) = true := by kernel_rfl
theorem jf12 : ((Rows.jointPrintsRow.named == Tryz.prog.varsNamed 22)) = true := by kernel_rfl
theorem jf13 : ((Rows.jointPrintsRow.maps == (Tryz.f22.params.toList ++ Rows.jointPrintsSpec.plain.varTypes Tryz.prog).any (Tryz.prog.mapsRec ·))) = true := by kernel_rfl
theorem jf14 : ((Rows.jointPrintsRow.ifaces == (Tryz.f22.params.toList ++ Rows.jointPrintsSpec.plain.varTypes Tryz.prog).any (Tryz.prog.ifacesRec ·))) = true := by kernel_rfl
theorem jf15 : ((Rows.jointPrintsRow.mapsOut == Tryz.prog.mapsAmong Tryz.f22.resultTypes.toList)) = true := by kernel_rfl
theorem jf16 : ((Rows.jointPrintsRow.loops == (Tryz.f22.params.toList ++ Rows.jointPrintsSpec.plain.varTypes Tryz.prog).any (Tryz.prog.loopsFrom ·))) = true := by kernel_rfl
theorem jf17 : ((Rows.jointPrintsRow.wideKeys == (Tryz.f22.params.toList ++ Rows.jointPrintsSpec.plain.varTypes Tryz.prog ++ Tryz.f22.resultTypes.toList).any (Tryz.prog.wideKeysFrom ·))) = true := by kernel_rfl
theorem jf18 : (Rows.jointPrintsSpec.vars.all (Tryz.prog.varReadable ·)) = true := by kernel_rfl
theorem jf19 : (Tryz.f22.resultTypes.all (fun t => Tryz.prog.readableRec t && decide (t < Tryz.prog.types.size))) = true := by kernel_rfl
theorem jf20 : ((Rows.jointPrintsRow.ifacesOut == Tryz.f22.resultTypes.toList.any (Tryz.prog.ifacesRec ·))) = true := by kernel_rfl
theorem jf21 : ((Rows.jointPrintsRow.loopsOut == Tryz.f22.resultTypes.toList.any (Tryz.prog.loopsFrom ·))) = true := by kernel_rfl
theorem jf22 : ((Rows.jointPrintsRow.plainKeys == Tryz.prog.plainKeys)) = true := by kernel_rfl
theorem jf23 : (Rows.jointPrintsRow.shortTexts.isNone) = true := by kernel_rfl
theorem jf24 : (Tryz.prog.stopsHeard) = true := by kernel_rfl
theorem jf25 : (Tryz.prog.mayEnter) = true := by kernel_rfl
theorem jf26 : ((Rows.jointPrintsRow.lifted == Tryz.prog.liftsFinal)) = true := by kernel_rfl
theorem jf27 : ((Tryz.prog.make == some Rows.jointPrintsRow.make)) = true := by kernel_rfl
theorem jf28 : ((Rows.jointPrintsRow.kinds == (if Rows.jointPrintsRow.domain.isEmpty then [] else Tryz.f22.params.toList.map fun t => match Tryz.prog.underlying t with | some (.int k) => some k | _ => none))) = true := by kernel_rfl
theorem jf29 : ((Rows.jointPrintsRow.pinned == Rows.jointPrintsRow.pinnedBy)) = true := by kernel_rfl
theorem jf30 : ((Rows.jointPrintsRow.veiled == (Tryz.f22.params.toList ++ Rows.jointPrintsSpec.plain.varTypes Tryz.prog ++ Tryz.f22.resultTypes.toList).any (Tryz.prog.veiledRec ·))) = true := by kernel_rfl
theorem jf31 : (Rows.jointPrintsRow.veiledFits Tryz.prog Tryz.f22.params.toList (Tryz.f22.params.toList ++ Rows.jointPrintsSpec.plain.varTypes Tryz.prog ++ Tryz.f22.resultTypes.toList)) = true := by kernel_rfl
theorem jfacts : joinedFacts Tryz.prog 22 Tryz.f22 Rows.jointPrintsSpec Rows.jointPrintsRow = true := by
  unfold joinedFacts
  simp only [Bool.and_eq_true]
  exact ⟨⟨⟨⟨⟨⟨⟨⟨⟨⟨⟨⟨⟨⟨⟨⟨⟨⟨⟨⟨⟨⟨⟨⟨⟨⟨⟨⟨⟨⟨⟨jf0, jf1⟩, jf2⟩, jf3⟩, jf4⟩, jf5⟩, jf6⟩, jf7⟩, jf8⟩, jf9⟩, jf10⟩, jf11⟩, jf12⟩, jf13⟩, jf14⟩, jf15⟩, jf16⟩, jf17⟩, jf18⟩, jf19⟩, jf20⟩, jf21⟩, jf22⟩, jf23⟩, jf24⟩, jf25⟩, jf26⟩, jf27⟩, jf28⟩, jf29⟩, jf30⟩, jf31⟩
end Go.Proofs.YtmnocohggpmjcaaGreatDoor
