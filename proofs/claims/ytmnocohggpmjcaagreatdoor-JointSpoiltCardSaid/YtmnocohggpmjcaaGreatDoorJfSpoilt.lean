/- The closed facts of the row of JointSpoilt. -/
import Derived.Test.YtmnocohggpmjcaaGreatDoorRows
import Derived.Stop.Joined
import Derived.JoinedOf
set_option linter.all false
namespace Go.Proofs.YtmnocohggpmjcaaGreatDoor
open Go Go.Proofs
set_option maxRecDepth 100000
theorem jf0 : (Rows.jointSpoiltRow.wf (OpenSpec.ofChange Rows.jointSpoiltSpec)) = true := by kernel_rfl
theorem jf1 : (laidOutB Tryz.prog) = true := by kernel_rfl
theorem jf2 : (mapsRowed Tryz.prog) = true := by kernel_rfl
theorem jf3 : (Tryz.f24.params.all (Tryz.prog.readableRec ·)) = true := by kernel_rfl
theorem jf4 : (namedTie Tryz.prog Rows.jointSpoiltRow.named Rows.jointSpoiltSpec.vars) = true := by kernel_rfl
theorem jf5 : ((Rows.jointSpoiltRow.stops == [])) = true := by kernel_rfl
theorem jf6 : ((Tryz.prog.stops == [])) = true := by kernel_rfl
theorem jf7 : ((Rows.jointSpoiltRow.knobs == [])) = true := by kernel_rfl
theorem jf8 : ((Tryz.prog.stopKnobs == [])) = true := by kernel_rfl
theorem jf9 : ((Rows.jointSpoiltRow.inPlace == Tryz.prog.inPlace 24)) = true := by kernel_rfl
theorem jf10 : ((Rows.jointSpoiltRow.unfollowed == Tryz.prog.unfollowed 24)) = true := by kernel_rfl
theorem jf11 : ((Rows.jointSpoiltRow.recurses == Tryz.prog.recurses 24)) = true := by kernel_rfl
theorem jf12 : ((Rows.jointSpoiltRow.named == Tryz.prog.varsNamed 24)) = true := by kernel_rfl
theorem jf13 : ((Rows.jointSpoiltRow.maps == (Tryz.f24.params.toList ++ Rows.jointSpoiltSpec.plain.varTypes Tryz.prog).any (Tryz.prog.mapsRec ·))) = true := by kernel_rfl
theorem jf14 : ((Rows.jointSpoiltRow.ifaces == (Tryz.f24.params.toList ++ Rows.jointSpoiltSpec.plain.varTypes Tryz.prog).any (Tryz.prog.ifacesRec ·))) = true := by kernel_rfl
theorem jf15 : ((Rows.jointSpoiltRow.mapsOut == Tryz.prog.mapsAmong Tryz.f24.resultTypes.toList)) = true := by kernel_rfl
theorem jf16 : ((Rows.jointSpoiltRow.loops == (Tryz.f24.params.toList ++ Rows.jointSpoiltSpec.plain.varTypes Tryz.prog).any (Tryz.prog.loopsFrom ·))) = true := by kernel_rfl
theorem jf17 : ((Rows.jointSpoiltRow.wideKeys == (Tryz.f24.params.toList ++ Rows.jointSpoiltSpec.plain.varTypes Tryz.prog ++ Tryz.f24.resultTypes.toList).any (Tryz.prog.wideKeysFrom ·))) = true := by kernel_rfl
theorem jf18 : (Rows.jointSpoiltSpec.vars.all (Tryz.prog.varReadable ·)) = true := by kernel_rfl
theorem jf19 : (Tryz.f24.resultTypes.all (fun t => Tryz.prog.readableRec t && decide (t < Tryz.prog.types.size))) = true := by kernel_rfl
theorem jf20 : ((Rows.jointSpoiltRow.ifacesOut == Tryz.f24.resultTypes.toList.any (Tryz.prog.ifacesRec ·))) = true := by kernel_rfl
theorem jf21 : ((Rows.jointSpoiltRow.loopsOut == Tryz.f24.resultTypes.toList.any (Tryz.prog.loopsFrom ·))) = true := by kernel_rfl
theorem jf22 : ((Rows.jointSpoiltRow.plainKeys == Tryz.prog.plainKeys)) = true := by kernel_rfl
theorem jf23 : (Rows.jointSpoiltRow.shortTexts.isNone) = true := by kernel_rfl
theorem jf24 : (Tryz.prog.stopsHeard) = true := by kernel_rfl
theorem jf25 : (Tryz.prog.mayEnter) = true := by kernel_rfl
theorem jf26 : ((Rows.jointSpoiltRow.lifted == Tryz.prog.liftsFinal)) = true := by kernel_rfl
theorem jf27 : ((Tryz.prog.make == some Rows.jointSpoiltRow.make)) = true := by kernel_rfl
theorem jf28 : ((Rows.jointSpoiltRow.kinds == (if Rows.jointSpoiltRow.domain.isEmpty then [] else Tryz.f24.params.toList.map fun t => match Tryz.prog.underlying t with | some (.int k) => some k | _ => none))) = true := by kernel_rfl
theorem jf29 : ((Rows.jointSpoiltRow.pinned == Rows.jointSpoiltRow.pinnedBy)) = true := by kernel_rfl
theorem jf30 : ((Rows.jointSpoiltRow.veiled == (Tryz.f24.params.toList ++ Rows.jointSpoiltSpec.plain.varTypes Tryz.prog ++ Tryz.f24.resultTypes.toList).any (Tryz.prog.veiledRec ·))) = true := by kernel_rfl
theorem jf31 : (Rows.jointSpoiltRow.veiledFits Tryz.prog Tryz.f24.params.toList (Tryz.f24.params.toList ++ Rows.jointSpoiltSpec.plain.varTypes Tryz.prog ++ Tryz.f24.resultTypes.toList)) = true := by kernel_rfl
theorem jfacts : joinedFacts Tryz.prog 24 Tryz.f24 Rows.jointSpoiltSpec Rows.jointSpoiltRow = true := by
  unfold joinedFacts
  simp only [Bool.and_eq_true]
  exact ⟨⟨⟨⟨⟨⟨⟨⟨⟨⟨⟨⟨⟨⟨⟨⟨⟨⟨⟨⟨⟨⟨⟨⟨⟨⟨⟨⟨⟨⟨⟨jf0, jf1⟩, jf2⟩, jf3⟩, jf4⟩, jf5⟩, jf6⟩, jf7⟩, jf8⟩, jf9⟩, jf10⟩, jf11⟩, jf12⟩, jf13⟩, jf14⟩, jf15⟩, jf16⟩, jf17⟩, jf18⟩, jf19⟩, jf20⟩, jf21⟩, jf22⟩, jf23⟩, jf24⟩, jf25⟩, jf26⟩, jf27⟩, jf28⟩, jf29⟩, jf30⟩, jf31⟩
end Go.Proofs.YtmnocohggpmjcaaGreatDoor
