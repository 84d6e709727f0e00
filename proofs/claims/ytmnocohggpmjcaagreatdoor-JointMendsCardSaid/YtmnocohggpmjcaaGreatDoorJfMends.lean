/- The closed facts of the row of JointMends. -/
import Derived.Test.YtmnocohggpmjcaaGreatDoorRows
import Derived.Stop.Joined
import Derived.JoinedOf
set_option linter.all false
namespace Go.Proofs.YtmnocohggpmjcaaGreatDoor
open Go Go.Proofs
set_option maxRecDepth 100000
theorem jf0 : (Rows.jointMendsRow.wf (OpenSpec.ofChange Rows.jointMendsSpec)) = true := by kernel_rfl
theorem jf1 : (laidOutB Tryz.prog) = true := by kernel_rfl
theorem jf2 : (mapsRowed Tryz.prog) = true := by kernel_rfl
theorem jf3 : (Tryz.f13.params.all (Tryz.prog.readableRec ·)) = true := by kernel_rfl
theorem jf4 : (namedTie Tryz.prog Rows.jointMendsRow.named Rows.jointMendsSpec.vars) = true := by kernel_rfl
theorem jf5 : ((Rows.jointMendsRow.stops == [])) = true := by kernel_rfl
theorem jf6 : ((Tryz.prog.stops == [])) = true := by kernel_rfl
theorem jf7 : ((Rows.jointMendsRow.knobs == [])) = true := by kernel_rfl
theorem jf8 : ((Tryz.prog.stopKnobs == [])) = true := by kernel_rfl
theorem jf9 : ((Rows.jointMendsRow.inPlace == Tryz.prog.inPlace 13)) = true := by kernel_rfl
theorem jf10 : ((Rows.jointMendsRow.unfollowed == Tryz.prog.unfollowed 13)) = true := by kernel_rfl
theorem jf11 : ((Rows.jointMendsRow.recurses == Tryz.prog.recurses 13)) = true := by kernel_rfl
theorem jf12 : ((Rows.jointMendsRow.named == Tryz.prog.varsNamed 13)) = true := by kernel_rfl
theorem jf13 : ((Rows.jointMendsRow.maps == (Tryz.f13.params.toList ++ Rows.jointMendsSpec.plain.varTypes Tryz.prog).any (Tryz.prog.mapsRec ·))) = true := by kernel_rfl
theorem jf14 : ((Rows.jointMendsRow.ifaces == (Tryz.f13.params.toList ++ Rows.jointMendsSpec.plain.varTypes Tryz.prog).any (Tryz.prog.ifacesRec ·))) = true := by kernel_rfl
theorem jf15 : ((Rows.jointMendsRow.mapsOut == Tryz.prog.mapsAmong Tryz.f13.resultTypes.toList)) = true := by kernel_rfl
theorem jf16 : ((Rows.jointMendsRow.loops == (Tryz.f13.params.toList ++ Rows.jointMendsSpec.plain.varTypes Tryz.prog).any (Tryz.prog.loopsFrom ·))) = true := by kernel_rfl
theorem jf17 : ((Rows.jointMendsRow.wideKeys == (Tryz.f13.params.toList ++ Rows.jointMendsSpec.plain.varTypes Tryz.prog ++ Tryz.f13.resultTypes.toList).any (Tryz.prog.wideKeysFrom ·))) = true := by kernel_rfl
theorem jf18 : (Rows.jointMendsSpec.vars.all (Tryz.prog.varReadable ·)) = true := by kernel_rfl
theorem jf19 : (Tryz.f13.resultTypes.all (fun t => Tryz.prog.readableRec t && decide (t < Tryz.prog.types.size))) = true := by kernel_rfl
theorem jf20 : ((Rows.jointMendsRow.ifacesOut == Tryz.f13.resultTypes.toList.any (Tryz.prog.ifacesRec ·))) = true := by kernel_rfl
theorem jf21 : ((Rows.jointMendsRow.loopsOut == Tryz.f13.resultTypes.toList.any (Tryz.prog.loopsFrom ·))) = true := by kernel_rfl
theorem jf22 : ((Rows.jointMendsRow.plainKeys == Tryz.prog.plainKeys)) = true := by kernel_rfl
theorem jf23 : (Rows.jointMendsRow.shortTexts.isNone) = true := by kernel_rfl
theorem jf24 : (Tryz.prog.stopsHeard) = true := by kernel_rfl
theorem jf25 : (Tryz.prog.mayEnter) = true := by kernel_rfl
theorem jf26 : ((Rows.jointMendsRow.lifted == Tryz.prog.liftsFinal)) = true := by kernel_rfl
theorem jf27 : ((Tryz.prog.make == some Rows.jointMendsRow.make)) = true := by kernel_rfl
theorem jf28 : ((Rows.jointMendsRow.kinds == (if Rows.jointMendsRow.domain.isEmpty then [] else Tryz.f13.params.toList.map fun t => match Tryz.prog.underlying t with | some (.int k) => some k | _ => none))) = true := by kernel_rfl
theorem jf29 : ((Rows.jointMendsRow.pinned == Rows.jointMendsRow.pinnedBy)) = true := by kernel_rfl
theorem jf30 : ((Rows.jointMendsRow.veiled == (Tryz.f13.params.toList ++ Rows.jointMendsSpec.plain.varTypes Tryz.prog ++ Tryz.f13.resultTypes.toList).any (Tryz.prog.veiledRec ·))) = true := by kernel_rfl
theorem jf31 : (Rows.jointMendsRow.veiledFits Tryz.prog Tryz.f13.params.toList (Tryz.f13.params.toList ++ Rows.jointMendsSpec.plain.varTypes Tryz.prog ++ Tryz.f13.resultTypes.toList)) = true := by kernel_rfl
theorem jfacts : joinedFacts Tryz.prog 13 Tryz.f13 Rows.jointMendsSpec Rows.jointMendsRow = true := by
  unfold joinedFacts
  simp only [Bool.and_eq_true]
  exact ⟨⟨⟨⟨⟨⟨⟨⟨⟨⟨⟨⟨⟨⟨⟨⟨⟨⟨⟨⟨⟨⟨⟨⟨⟨⟨⟨⟨⟨⟨⟨jf0, jf1⟩, jf2⟩, jf3⟩, jf4⟩, jf5⟩, jf6⟩, jf7⟩, jf8⟩, jf9⟩, jf10⟩, jf11⟩, jf12⟩, jf13⟩, jf14⟩, jf15⟩, jf16⟩, jf17⟩, jf18⟩, jf19⟩, jf20⟩, jf21⟩, jf22⟩, jf23⟩, jf24⟩, jf25⟩, jf26⟩, jf27⟩, jf28⟩, jf29⟩, jf30⟩, jf31⟩
end Go.Proofs.YtmnocohggpmjcaaGreatDoor
