/- The closed facts of the row of JointSpreads. -/
import Derived.Test.YtmnocohggpmjcaaGreatDoorRows
import Derived.Stop.Joined
import Derived.JoinedOf
set_option linter.all false
namespace Go.Proofs.YtmnocohggpmjcaaGreatDoor
open Go Go.Proofs
set_option maxRecDepth 100000
theorem jf0 : (Rows.jointSpreadsRow.wf (OpenSpec.ofChange Rows.jointSpreadsSpec)) = true := by kernel_rfl
theorem jf1 : (laidOutB Tryz.prog) = true := by kernel_rfl
theorem jf2 : (mapsRowed Tryz.prog) = true := by kernel_rfl
theorem jf3 : (Tryz.f11.params.all (Tryz.prog.readableRec ·)) = true := by kernel_rfl
theorem jf4 : (namedTie Tryz.prog Rows.jointSpreadsRow.named Rows.jointSpreadsSpec.vars) = true := by kernel_rfl
theorem jf5 : ((Rows.jointSpreadsRow.stops == [])) = true := by kernel_rfl
theorem jf6 : ((Tryz.prog.stops == [])) = true := by kernel_rfl
theorem jf7 : ((Rows.jointSpreadsRow.knobs == [])) = true := by kernel_rfl
theorem jf8 : ((Tryz.prog.stopKnobs == [])) = true := by kernel_rfl
theorem jf9 : ((Rows.jointSpreadsRow.inPlace == Tryz.prog.inPlace 11)) = true := by kernel_rfl
theorem jf10 : ((Rows.jointSpreadsRow.unfollowed == Tryz.prog.unfollowed 11)) = true := by kernel_rfl
theorem jf11 : ((Rows.jointSpreadsRow.recurses == Tryz.prog.recurses 11)) = true := by kernel_rfl
theorem jf12 : ((Rows.jointSpreadsRow.named == Tryz.prog.varsNamed 11)) = true := by kernel_rfl
theorem jf13 : ((Rows.jointSpreadsRow.maps == (Tryz.f11.params.toList ++ Rows.jointSpreadsSpec.plain.varTypes Tryz.prog).any (Tryz.prog.mapsRec ·))) = true := by kernel_rfl
theorem jf14 : ((Rows.jointSpreadsRow.ifaces == (Tryz.f11.params.toList ++ Rows.jointSpreadsSpec.plain.varTypes Tryz.prog).any (Tryz.prog.ifacesRec ·))) = true := by kernel_rfl
theorem jf15 : ((Rows.jointSpreadsRow.mapsOut == Tryz.prog.mapsAmong Tryz.f11.resultTypes.toList)) = true := by kernel_rfl
theorem jf16 : ((Rows.jointSpreadsRow.loops == (Tryz.f11.params.toList ++ Rows.jointSpreadsSpec.plain.varTypes Tryz.prog).any (Tryz.prog.loopsFrom ·))) = true := by kernel_rfl
theorem jf17 : ((Rows.jointSpreadsRow.wideKeys == (Tryz.f11.params.toList ++ Rows.jointSpreadsSpec.plain.varTypes Tryz.prog ++ Tryz.f11.resultTypes.toList).any (Tryz.prog.wideKeysFrom ·))) = true := by kernel_rfl
theorem jf18 : (Rows.jointSpreadsSpec.vars.all (Tryz.prog.varReadable ·)) = true := by kernel_rfl
theorem jf19 : (Tryz.f11.resultTypes.all (fun t => Tryz.prog.readableRec t && decide (t < Tryz.prog.types.size))) = true := by kernel_rfl
theorem jf20 : ((Rows.jointSpreadsRow.ifacesOut == Tryz.f11.resultTypes.toList.any (Tryz.prog.ifacesRec ·))) = true := by kernel_rfl
theorem jf21 : ((Rows.jointSpreadsRow.loopsOut == Tryz.f11.resultTypes.toList.any (Tryz.prog.loopsFrom ·))) = true := by kernel_rfl
theorem jf22 : ((Rows.jointSpreadsRow.plainKeys == Tryz.prog.plainKeys)) = true := by kernel_rfl
theorem jf23 : (Rows.jointSpreadsRow.shortTexts.isNone) = true := by kernel_rfl
theorem jf24 : (Tryz.prog.stopsHeard) = true := by kernel_rfl
theorem jf25 : (Tryz.prog.mayEnter) = true := by kernel_rfl
theorem jf26 : ((Rows.jointSpreadsRow.lifted == Tryz.prog.liftsFinal)) = true := by kernel_rfl
theorem jf27 : ((Tryz.prog.make == some Rows.jointSpreadsRow.make)) = true := by kernel_rfl
theorem jf28 : ((Rows.jointSpreadsRow.kinds == (if Rows.jointSpreadsRow.domain.isEmpty then [] else Tryz.f11.params.toList.map fun t => match Tryz.prog.underlying t with | some (.int k) => some k | _ => none))) = true := by kernel_rfl
theorem jf29 : ((Rows.jointSpreadsRow.pinned == Rows.jointSpreadsRow.pinnedBy)) = true := by kernel_rfl
theorem jf30 : ((Rows.jointSpreadsRow.veiled == (Tryz.f11.params.toList ++ Rows.jointSpreadsSpec.plain.varTypes Tryz.prog ++ Tryz.f11.resultTypes.toList).any (Tryz.prog.veiledRec ·))) = true := by kernel_rfl
theorem jf31 : (Rows.jointSpreadsRow.veiledFits Tryz.prog Tryz.f11.params.toList (Tryz.f11.params.toList ++ Rows.jointSpreadsSpec.plain.varTypes Tryz.prog ++ Tryz.f11.resultTypes.toList)) = true := by kernel_rfl
theorem jfacts : joinedFacts Tryz.prog 11 Tryz.f11 Rows.jointSpreadsSpec Rows.jointSpreadsRow = true := by
  unfold joinedFacts
  simp only [Bool.and_eq_true]
  exact ⟨⟨⟨⟨⟨⟨⟨⟨⟨⟨⟨⟨⟨⟨⟨⟨⟨⟨⟨⟨⟨⟨⟨⟨⟨⟨⟨⟨⟨⟨⟨jf0, jf1⟩, jf2⟩, jf3⟩, jf4⟩, jf5⟩, jf6⟩, jf7⟩, jf8⟩, jf9⟩, jf10⟩, jf11⟩, jf12⟩, jf13⟩, jf14⟩, jf15⟩, jf16⟩, jf17⟩, jf18⟩, jf19⟩, jf20⟩, jf21⟩, jf22⟩, jf23⟩, jf24⟩, jf25⟩, jf26⟩, jf27⟩, jf28⟩, jf29⟩, jf30⟩, jf31⟩
end Go.Proofs.YtmnocohggpmjcaaGreatDoor
