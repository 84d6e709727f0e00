/- The closed facts of the row of JointLoose. -/
import Derived.Test.YtmnocohggpmjcaaGreatDoorRows
import Derived.Stop.Joined
import Derived.JoinedOf
set_option linter.all false
namespace Go.Proofs.YtmnocohggpmjcaaGreatDoor
open Go Go.Proofs
set_option maxRecDepth 100000
theorem jf0 : (Rows.jointLooseRow.wf (OpenSpec.ofChange Rows.jointLooseSpec)) = true := by kernel_rfl
theorem jf1 : (laidOutB Tryz.prog) = true := by kernel_rfl
theorem jf2 : (mapsRowed Tryz.prog) = true := by kernel_rfl
theorem jf3 : (Tryz.f21.params.all (Tryz.prog.readableRec ·)) = true := by kernel_rfl
theorem jf4 : (namedTie Tryz.prog Rows.jointLooseRow.named Rows.jointLooseSpec.vars) = true := by kernel_rfl
theorem jf5 : ((Rows.jointLooseRow.stops == [])) = true := by kernel_rfl
theorem jf6 : ((Tryz.prog.stops == [])) = true := by kernel_rfl
theorem jf7 : ((Rows.jointLooseRow.knobs == [])) = true := by kernel_rfl
theorem jf8 : ((Tryz.prog.stopKnobs == [])) = true := by kernel_rfl
theorem jf9 : ((Rows.jointLooseRow.inPlace == Tryz.prog.inPlace 21)) = true := by kernel_rfl
theorem jf10 : ((Rows.jointLooseRow.unfollowed == Tryz.prog.unfollowed 21)) = true := by kernel_rfl
theorem jf11 : ((Rows.jointLooseRow.recurses == Tryz.prog.recurses 21)) = true := by kernel_rfl
theorem jf12 : ((Rows.jointLooseRow.named == Tryz.prog.varsNamed 21)) = true := by kernel_rfl
theorem jf13 : ((Rows.jointLooseRow.maps == (Tryz.f21.params.toList ++ Rows.jointLooseSpec.plain.varTypes Tryz.prog).any (Tryz.prog.mapsRec ·))) = true := by kernel_rfl
theorem jf14 : ((Rows.jointLooseRow.ifaces == (Tryz.f21.params.toList ++ Rows.jointLooseSpec.plain.varTypes Tryz.prog).any (Tryz.prog.ifacesRec ·))) = true := by kernel_rfl
theorem jf15 : ((Rows.jointLooseRow.mapsOut == Tryz.prog.mapsAmong Tryz.f21.resultTypes.toList)) = true := by kernel_rfl
theorem jf16 : ((Rows.jointLooseRow.loops == (Tryz.f21.params.toList ++ Rows.jointLooseSpec.plain.varTypes Tryz.prog).any (Tryz.prog.loopsFrom ·))) = true := by kernel_rfl
theorem jf17 : ((Rows.jointLooseRow.wideKeys == (Tryz.f21.params.toList ++ Rows.jointLooseSpec.plain.varTypes Tryz.prog ++ Tryz.f21.resultTypes.toList).any (Tryz.prog.wideKeysFrom ·))) = true := by kernel_rfl
theorem jf18 : (Rows.jointLooseSpec.vars.all (Tryz.prog.varReadable ·)) = true := by kernel_rfl
theorem jf19 : (Tryz.f21.resultTypes.all (fun t => Tryz.prog.readableRec t && decide (t < Tryz.prog.types.size))) = true := by kernel_rfl
theorem jf20 : ((Rows.jointLooseRow.ifacesOut == Tryz.f21.resultTypes.toList.any (Tryz.prog.ifacesRec ·))) = true := by kernel_rfl
theorem jf21 : ((Rows.jointLooseRow.loopsOut == Tryz.f21.resultTypes.toList.any (Tryz.prog.loopsFrom ·))) = true := by kernel_rfl
theorem jf22 : ((Rows.jointLooseRow.plainKeys == Tryz.prog.plainKeys)) = true := by kernel_rfl
theorem jf23 : (Rows.jointLooseRow.shortTexts.isNone) = true := by kernel_rfl
theorem jf24 : (Tryz.prog.stopsHeard) = true := by kernel_rfl
theorem jf25 : (Tryz.prog.mayEnter) = true := by kernel_rfl
theorem jf26 : ((Rows.jointLooseRow.lifted == Tryz.prog.liftsFinal)) = true := by kernel_rfl
theorem jf27 : ((Tryz.prog.make == some Rows.jointLooseRow.make)) = true := by kernel_rfl
theorem jf28 : ((Rows.jointLooseRow.kinds == (if Rows.jointLooseRow.domain.isEmpty then [] else Tryz.f21.params.toList.map fun t => match Tryz.prog.underlying t with | some (.int k) => some k | _ => none))) = true := by kernel_rfl
theorem jf29 : ((Rows.jointLooseRow.pinned == Rows.jointLooseRow.pinnedBy)) = true := by kernel_rfl
theorem jf30 : ((Rows.jointLooseRow.veiled == (Tryz.f21.params.toList ++ Rows.jointLooseSpec.plain.varTypes Tryz.prog ++ Tryz.f21.resultTypes.toList).any (Tryz.prog.veiledRec ·))) = true := by kernel_rfl
theorem jf31 : (Rows.jointLooseRow.veiledFits Tryz.prog Tryz.f21.params.toList (Tryz.f21.params.toList ++ Rows.jointLooseSpec.plain.varTypes Tryz.prog ++ Tryz.f21.resultTypes.toList)) = true := by kernel_rfl
theorem jfacts : joinedFacts Tryz.prog 21 Tryz.f21 Rows.jointLooseSpec Rows.jointLooseRow = true := by
  unfold joinedFacts
  simp only [Bool.and_eq_true]
  exact ⟨⟨⟨⟨⟨⟨⟨⟨⟨⟨⟨⟨⟨⟨⟨⟨⟨⟨⟨⟨⟨⟨⟨⟨⟨⟨⟨⟨⟨⟨⟨jf0, jf1⟩, jf2⟩, jf3⟩, jf4⟩, jf5⟩, jf6⟩, jf7⟩, jf8⟩, jf9⟩, jf10⟩, jf11⟩, jf12⟩, jf13⟩, jf14⟩, jf15⟩, jf16⟩, jf17⟩, jf18⟩, jf19⟩, jf20⟩, jf21⟩, jf22⟩, jf23⟩, jf24⟩, jf25⟩, jf26⟩, jf27⟩, jf28⟩, jf29⟩, jf30⟩, jf31⟩
end Go.Proofs.YtmnocohggpmjcaaGreatDoor
