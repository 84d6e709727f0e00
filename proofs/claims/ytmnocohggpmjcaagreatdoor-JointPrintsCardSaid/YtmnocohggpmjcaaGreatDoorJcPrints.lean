/- The law JointPrints of the joints (kelirlaw02): for every figure its function returns true, and each argument reads afterwards as it read before. Condition: the listed tables of the library lie in the memory as the program's text lays them; the card ties that to the text. -/
import Derived.Test.YtmnocohggpmjcaaGreatDoorCards
import Derived.Test.YtmnocohggpmjcaaGreatDoorTie
import Derived.SevenTiedAt
import Derived.Test.YtmnocohggpmjcaaGreatDoorQrShp
import Derived.Test.YtmnocohggpmjcaaGreatDoorQnA
import Derived.Test.YtmnocohggpmjcaaGreatDoorQncLaw
import Derived.Test.YtmnocohggpmjcaaGreatDoorJfPrints
import Derived.Test.YtmnocohggpmjcaaGreatDoorJhPrints
set_option linter.all false
namespace Go.Proofs.YtmnocohggpmjcaaGreatDoor
open Go Go.Pv Go.RowKit Go.Proofs
set_option maxRecDepth 100000
theorem prints_law (pvs : List PV) (h : shpA [(figTS, true)] pvs) : CallOk Tryz.prog 22 pvs [] (.ret (.bool true)) [] := by
  obtain ⟨a1, q, rfl, h1, h⟩ := shpA_cons h
  obtain rfl := shpA_nil h
  obtain ⟨s, z, ls, rfl, hz⟩ := fig_of h1
  exact prints_22 known_con s z ls hz
theorem prints_lifted (os : Os) (started : os.Started) (H : Type) (enc : TypeId × Value → H) :
    ReturnsInHanded {} Tryz.checked os 22 .any (fun w args => (Rows.jointPrintsSpec.pre enc Tryz.prog Tryz.f22 [] false w args ∧ laidMetH Tryz.prog laidJ w) ∧ sizedMet enc Tryz.prog Tryz.f22 (OpenSpec.ofChange Rows.jointPrintsSpec) false w args)
      (Rows.jointPrintsSpec.post enc Tryz.prog Tryz.f22 false true false false) :=
  law_lifted (ts := [24]) Tryz.func22 (by kernel_rfl) (by rw [Tryz.params22]) (by kernel_rfl) rfl (by kernel_rfl) (by kernel_rfl)
    (fun H ds h => by
      match ds, h with
      | [d1], _ => exact ⟨rfl, rfl, rfl⟩)
    prints_law os started H enc
    (ChangeSpec.witness_shaped (enc := enc) (C := Tryz.checked) (os := os) (X := fun w _ => laidMetH Tryz.prog laidJ w) false (World.laidAll Tryz.prog os laidJ) #[.agg #[.int .i64 0, .slice none 0 0]] 8 (World.laidAll_os _ _ _)
      (World.shaped_of_ZipB (by kernel_rfl) (by kernel_rfl)) (by kernel_rfl) (by kernel_rfl) (by kernel_rfl)
      (by rw [laidJ_plain]; exact laidMet_laidAll _ (by kernel_rfl) (by kernel_rfl)))
theorem prints_row : Rows.JointPrintsSaid :=
  OpenClaim.holds_of_wide 22 Tryz.f22 rfl rfl rfl rfl rfl rfl rfl ⟨rfl, rfl, rfl, rfl, rfl⟩ rfl rfl rfl rfl rfl (by kernel_rfl) Tryz.func22 jfacts
    (of_decide_eq_true (by kernel_rfl)) (by unfold Func.isWrapper; first | (rw [if_pos (by decide +kernel)]; kernel_rfl) | (rw [if_neg (by decide +kernel)]; exact ⟨rfl, rfl⟩))
    (fun os started H enc _ => prints_lifted os started H enc)
theorem prints_holds : Rows.JointPrintsCardSaid :=
  Claim7.holds_tied_plain_at .later [] [.data, .data, .data, .data, .pinned] true (true, "2ab4f9e966ac3c75ece0de67bdd08bc36af31b5c9c04f15a943881bce790f99b") true
    prints_row (fun _ h => by cases h) hc_wf (fun _ h => by cases h) jointPrints_row_tie rfl ⟨rfl, rfl⟩ hc_main rfl
    (fun f fn hf hfn => by
      obtain rfl : f = 22 := Option.some.inj (hc_named.symm.trans hf) |>.symm
      obtain rfl : fn = Tryz.f22 := (Option.some.inj (Tryz.func22.symm.trans hfn)).symm
      exact ⟨hc_looks, fun j t ht => by
        rw [Tryz.params22] at ht
        have hm : t ∈ [24] := by
          have h5 : t ∈ [24] := by simpa using Array.mem_of_getElem? ht
          exact h5
        exact (show Tryz.prog.wantsStandIn t = false by simpa using List.all_eq_true.1 hc_stand t hm)⟩)
    hc_goes
end Go.Proofs.YtmnocohggpmjcaaGreatDoor
