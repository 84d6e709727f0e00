/- The law JointEnds of the joints (kelirlaw02): for every figure and pose its function returns true, and each argument reads afterwards as it read before. Condition: the listed tables of the library lie in the memory as the program's text lays them; the card ties that to the text. -/
import Derived.Test.YtmnocohggpmjcaaGreatDoorJlShp
import Derived.Test.YtmnocohggpmjcaaGreatDoorJlU
import Derived.Test.YtmnocohggpmjcaaGreatDoorJfEnds
import Derived.Test.YtmnocohggpmjcaaGreatDoorJhEnds
import Derived.Test.YtmnocohggpmjcaaGreatDoorCards
import Derived.Test.YtmnocohggpmjcaaGreatDoorTie
import Derived.SevenTiedAt
set_option linter.all false
namespace Go.Proofs.YtmnocohggpmjcaaGreatDoor
open Go Go.Pv Go.RowKit Go.Proofs
set_option maxRecDepth 100000

theorem ends_law (pvs : List PV) (h : shpA [(figTS, true), (isTS, false)] pvs) : CallOk Tryz.prog 16 pvs [] (.ret (.bool true)) [] := by
  obtain ⟨a, q, rfl, h1, h⟩ := shpA_cons h
  obtain ⟨b, q, rfl, h2, h⟩ := shpA_cons h
  obtain rfl := shpA_nil h
  obtain ⟨s, z, ls, rfl, hz⟩ := fig_of h1
  obtain ⟨zp, ps, rfl, hp⟩ := is_of h2
  exact ends_16 known_con s z zp ls ps hz hp
theorem ends_lifted (os : Os) (started : os.Started) (H : Type) (enc : TypeId × Value → H) :
    ReturnsInHanded {} Tryz.checked os 16 .any (fun w args => (Rows.jointEndsSpec.pre enc Tryz.prog Tryz.f16 [] false w args ∧ laidMetH Tryz.prog laidJ w) ∧ sizedMet enc Tryz.prog Tryz.f16 (OpenSpec.ofChange Rows.jointEndsSpec) false w args)
      (Rows.jointEndsSpec.post enc Tryz.prog Tryz.f16 false true false false) :=
  law_lifted (ts := [24, 25]) Tryz.func16 (by kernel_rfl) (by rw [Tryz.params16]) (by kernel_rfl) rfl (by kernel_rfl) (by kernel_rfl)
    (fun H ds h => by
      match ds, h with
      | [d1, d2], _ => exact ⟨rfl, rfl, rfl⟩)
    ends_law os started H enc
    (ChangeSpec.witness_shaped (enc := enc) (C := Tryz.checked) (os := os) (X := fun w _ => laidMetH Tryz.prog laidJ w) false (World.laidAll Tryz.prog os laidJ) #[.agg #[.int .i64 0, .slice none 0 0], .slice none 0 0] 8 (World.laidAll_os _ _ _)
      (World.shaped_of_ZipB (by kernel_rfl) (by kernel_rfl)) (by kernel_rfl) (by kernel_rfl) (by kernel_rfl)
      (by rw [laidJ_plain]; exact laidMet_laidAll _ (by kernel_rfl) (by kernel_rfl)))
theorem ends_row : Rows.JointEndsSaid :=
  OpenClaim.holds_of_wide 16 Tryz.f16 rfl rfl rfl rfl rfl rfl rfl ⟨rfl, rfl, rfl, rfl, rfl⟩ rfl rfl rfl rfl rfl (by kernel_rfl) Tryz.func16 jfacts
    (of_decide_eq_true (by kernel_rfl)) (by unfold Func.isWrapper; first | (rw [if_pos (by decide +kernel)]; kernel_rfl) | (rw [if_neg (by decide +kernel)]; exact ⟨rfl, rfl⟩))
    (fun os started H enc _ => ends_lifted os started H enc)
theorem ends_holds : Rows.JointEndsCardSaid :=
  Claim7.holds_tied_plain_at .later [] [.data, .data, .data, .data, .pinned] true (true, "2ab4f9e966ac3c75ece0de67bdd08bc36af31b5c9c04f15a943881bce790f99b") true
    ends_row (fun _ h => by cases h) hc_wf (fun _ h => by cases h) jointEnds_row_tie rfl ⟨rfl, rfl⟩ hc_main rfl
    (fun f fn hf hfn => by
      obtain rfl : f = 16 := Option.some.inj (hc_named.symm.trans hf) |>.symm
      obtain rfl : fn = Tryz.f16 := (Option.some.inj (Tryz.func16.symm.trans hfn)).symm
      exact ⟨hc_looks, fun j t ht => by
        rw [Tryz.params16] at ht
        have hm : t ∈ [24, 25] := by
          have h5 : t ∈ [24, 25] := by simpa using Array.mem_of_getElem? ht
          simp only [List.mem_cons, List.not_mem_nil, or_false] at h5 ⊢
          rcases h5 with h | h
          · exact .inl h
          · exact .inr h
        exact (show Tryz.prog.wantsStandIn t = false by simpa using List.all_eq_true.1 hc_stand t hm)⟩)
    hc_goes
end Go.Proofs.YtmnocohggpmjcaaGreatDoor
