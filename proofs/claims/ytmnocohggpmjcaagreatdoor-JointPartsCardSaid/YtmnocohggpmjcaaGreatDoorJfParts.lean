/- The closed facts of the row of JointParts. -/
import Derived.Test.YtmnocohggpmjcaaGreatDoorRows
import Derived.Stop.Joined
import Derived.JoinedOf
set_option linter.all false
namespace Go.Proofs.YtmnocohggpmjcaaGreatDoor
open Go Go.Proofs
set_option maxRecDepth 100000
theorem jf0 : (Rows.jointPartsRow.wf (OpenSpec.ofChange Rows.jointPartsSpec)) = true := by kernel_rfl
theorem jf1 : (laidOutB Tryz.prog) = true := by kernel_rfl
theorem jf2 : (mapsRowed Tryz.prog) = true := by kernel_rfl
theorem jf3 : (Tryz.f9.params.all (Tryz.prog.readableRec ·)) = true := by kernel_rfl
theorem jf4 : (namedTie Tryz.prog Rows.jointPartsRow.named Rows.jointPartsSpec.vars) = true := by kernel_rfl
theorem jf5 : ((Rows.jointPartsRow.stops == [])) = true := by kernel_rfl
theorem jf6 : ((Tryz.prog.stops == [])) = true := by kernel_rfl
theorem jf7 : ((Rows.jointPartsRow.knobs == [])) = true := by kernel_rfl
theorem jf8 : ((Tryz.prog.stopKnobs == [])) = true := by kernel_rfl
theorem jf9 : ((Rows.jointPartsRow.inPlace == Tryz.prog.inPlace 9)) = true := by kernel_rfl
theorem jf10 : ((Rows.jointPartsRow.unfollowed == Tryz.prog.unfollowed 9)) = true := by kernel_rfl
theorem jf11 : ((Rows.jointPartsRow.recurses == Tryz.prog.recurses 9)) = true := by kernel_rfl
theorem jf12 : ((Rows.jointPartsRow.named == Tryz.prog.varsNamed 9)) = true := by kernel_rfl
theorem jf13 : ((Rows.jointPartsRow.maps == (Tryz.f9.params.toList ++ Rows.jointPartsSpec.plain.varTypes Tryz.prog).any (Tryz.prog.mapsRec ·))) = true := by kernel_rfl
theorem jf14 : ((Rows.jointPartsRow.ifaces == (Tryz.f9.params.toList ++ Rows.jointPartsSpec.plain.varTypes Tryz.prog).any (Tryz.prog.ifacesRec ·))) = true := by kernel_rfl
theorem jf15 : ((Rows.jointPartsRow.mapsOut == Tryz.prog.mapsAmong Tryz.f9.resultTypes.toList)) = true := by kernel_rfl
theorem jf16 : ((Rows.jointPartsRow.loops == (Tryz.f9.params.toList ++ Rows.jointPartsSpec.plain.varTypes Tryz.prog).any (Tryz.prog.loopsFrom ·))) = true := by kernel_rfl
theorem jf17 : ((Rows.jointPartsRow.wideKeys == (Tryz.f9.params.toList ++ Rows.jointPartsSpec.plain.varTypes Tryz.prog ++ Tryz.f9.resultTypes.toList).any (Tryz.prog.wideKeysFrom ·))) = true := by kernel_rfl
theorem jf18 : (Rows.jointPartsSpec.vars.all (Tryz.prog.varReadable ·)) = true := by kernel_rfl
theorem jf19 : (Tryz.f9.resultTypes.all (fun t => Tryz.prog.readableRec t && decide (t < Tryz.prog.types.size))) = true := by kernel_rfl
theorem jf20 : ((Rows.jointPartsRow.ifacesOut == Tryz.f9.resultTypes.toList.any (Tryz.prog.ifacesRec ·))) = true := by kernel_rfl
theorem jf21 : ((Rows.jointPartsRow.loopsOut == Tryz.f9.resultTypes.toList.any (Tryz.prog.loopsFrom ·))) = true := by kernel_rfl
theorem jf22 : ((Rows.jointPartsRow.plainKeys == Tryz.prog.plainKeys)) = true := by kernel_rfl
theorem jf23 : (Rows.jointPartsRow.shortTexts.isNone) = true := by kernel_rfl
theorem jf24 : (Tryz.prog.stopsHeard) = true := by kernel_rfl
theorem jf25 : (Tryz.prog.mayEnter) = true := by kernel_rfl
theorem jf26 : ((Rows.jointPartsRow.lifted == Tryz.prog.liftsFinal)) = true := by kernel_rfl
theorem jf27 : ((Tryz.prog.make == some Rows.jointPartsRow.make)) = true := by kernel_rfl
theorem jf28 : ((Rows.jointPartsRow.kinds == (if Rows.jointPartsRow.domain.isEmpty then [] else Tryz.f9.params.toList.map fun t => match Tryz.prog.underlying t with | some (.int k) => some k | _ => none))) = true := by kernel_rfl
theorem jf29 : ((Rows.jointPartsRow.pinned == Rows.jointPartsRow.pinnedBy)) = true := by kernel_rfl
theorem jf30 : ((Rows.jointPartsRow.veiled == (Tryz.f9.params.toList ++ Rows.jointPartsSpec.plain.varTypes Tryz.prog ++ Tryz.f9.resultTypes.toList).any (Tryz.prog.veiledRec ·))) = true := by kernel_rfl
theorem jf31 : (Rows.jointPartsRow.veiledFits Tryz.prog Tryz.f9.params.toList (Tryz.f9.params.toList ++ Rows.jointPartsSpec.plain.varTypes Tryz.prog ++ Tryz.f9.resultTypes.toList)) = true := by kernel_rfl
theorem jfacts : joinedFacts Tryz.prog 9 Tryz.f9 Rows.jointPartsSpec Rows.jointPartsRow = true := by
  unfold joinedFacts
  simp only [Bool.and_eq_true]
  exact ⟨⟨⟨⟨⟨⟨⟨⟨⟨⟨⟨⟨⟨⟨⟨⟨⟨⟨⟨⟨⟨⟨⟨⟨⟨⟨⟨⟨⟨⟨⟨jf0, jf1⟩, jf2⟩, jf3⟩, jf4⟩, jf5⟩, jf6⟩, jf7⟩, jf8⟩, jf9⟩, jf10⟩, jf11⟩, jf12⟩, jf13⟩, jf14⟩, jf15⟩, jf16⟩, jf17⟩, jf18⟩, jf19⟩, jf20⟩, jf21⟩, jf22⟩, jf23⟩, jf24⟩, jf25⟩, jf26⟩, jf27⟩, jf28⟩, jf29⟩, jf30⟩, jf31⟩
end Go.Proofs.YtmnocohggpmjcaaGreatDoor
