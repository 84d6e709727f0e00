/- The law JointMends of the joints (kelirlaw02): for every figure, stage and list of poses its function returns true, and each argument reads afterwards as it read before. Condition: the listed tables of the library lie in the memory as the program's text lays them; the card ties that to the text. -/
import Derived.Test.YtmnocohggpmjcaaGreatDoorCards
import Derived.Test.YtmnocohggpmjcaaGreatDoorTie
import Derived.SevenTiedAt
import Derived.Test.YtmnocohggpmjcaaGreatDoorQsShp
import Derived.Test.YtmnocohggpmjcaaGreatDoorQmdShp
import Derived.Test.YtmnocohggpmjcaaGreatDoorQmdLaw
import Derived.Test.YtmnocohggpmjcaaGreatDoorJfMends
import Derived.Test.YtmnocohggpmjcaaGreatDoorJhMends
set_option linter.all false
namespace Go.Proofs.YtmnocohggpmjcaaGreatDoor
open Go Go.Pv Go.RowKit Go.Proofs
set_option maxRecDepth 100000
theorem mends_law (pvs : List PV) (h : shpA [(figTS, true), (stgTS, true), (issTS, false)] pvs) : CallOk Tryz.prog 13 pvs [] (.ret (.bool true)) [] := by
  obtain ⟨a1, q, rfl, h1, h⟩ := shpA_cons h
  obtain ⟨a2, q, rfl, h2, h⟩ := shpA_cons h
  obtain ⟨a3, q, rfl, h3, h⟩ := shpA_cons h
  obtain rfl := shpA_nil h
  obtain ⟨s, z, ls, rfl, hz⟩ := fig_of h1
  obtain ⟨zh, zr, g, rfl, hh, hr⟩ := stg_of h2
  obtain ⟨zq, L, rfl, hq⟩ := iss_of h3
  exact mends_13 known_con s z zh zr zq ls g L hz hh hr hq.1 hq.2
theorem mends_lifted (os : Os) (started : os.Started) (H : Type) (enc : TypeId × Value → H) :
    ReturnsInHanded {} Tryz.checked os 13 .any (fun w args => (Rows.jointMendsSpec.pre enc Tryz.prog Tryz.f13 [] false w args ∧ laidMetH Tryz.prog laidJ w) ∧ sizedMet enc Tryz.prog Tryz.f13 (OpenSpec.ofChange Rows.jointMendsSpec) false w args)
      (Rows.jointMendsSpec.post enc Tryz.prog Tryz.f13 false true false false) :=
  law_lifted (ts := [24, 60, 92]) Tryz.func13 (by kernel_rfl) (by rw [Tryz.params13]) (by kernel_rfl) rfl (by kernel_rfl) (by kernel_rfl)
    (fun H ds h => by
      match ds, h with
      | [d1, d2, d3], _ => exact ⟨rfl, rfl, rfl⟩)
    mends_law os started H enc
    (ChangeSpec.witness_shaped (enc := enc) (C := Tryz.checked) (os := os) (X := fun w _ => laidMetH Tryz.prog laidJ w) false (World.laidAll Tryz.prog os laidJ) #[.agg #[.int .i64 0, .slice none 0 0], .agg #[.int .i64 0, .int .i64 0, .int .i64 0, .int .i64 0, .slice none 0 0, .slice none 0 0], .slice none 0 0] 8 (World.laidAll_os _ _ _)
      (World.shaped_of_ZipB (by kernel_rfl) (by kernel_rfl)) (by kernel_rfl) (by kernel_rfl) (by kernel_rfl)
      (by rw [laidJ_plain]; exact laidMet_laidAll _ (by kernel_rfl) (by kernel_rfl)))
theorem mends_row : Rows.JointMendsSaid :=
  OpenClaim.holds_of_wide 13 Tryz.f13 rfl rfl rfl rfl rfl rfl rfl ⟨rfl, rfl, rfl, rfl, rfl⟩ rfl rfl rfl rfl rfl (by kernel_rfl) Tryz.func13 jfacts
    (of_decide_eq_true (by kernel_rfl)) (by unfold Func.isWrapper; first | (rw [if_pos (by decide +kernel)]; kernel_rfl) | (rw [if_neg (by decide +kernel)]; exact ⟨rfl, rfl⟩))
    (fun os started H enc _ => mends_lifted os started H enc)
theorem mends_holds : Rows.JointMendsCardSaid :=
  Claim7.holds_tied_plain_at .later [] [.data, .data, .data, .data, .pinned] true (true, "2ab4f9e966ac3c75ece0de67bdd08bc36af31b5c9c04f15a943881bce790f99b") true
    mends_row (fun _ h => by cases h) hc_wf (fun _ h => by cases h) jointMends_row_tie rfl ⟨rfl, rfl⟩ hc_main rfl
    (fun f fn hf hfn => by
      obtain rfl : f = 13 := Option.some.inj (hc_named.symm.trans hf) |>.symm
      obtain rfl : fn = Tryz.f13 := (Option.some.inj (Tryz.func13.symm.trans hfn)).symm
      exact ⟨hc_looks, fun j t ht => by
        rw [Tryz.params13] at ht
        have hm : t ∈ [24, 60, 92] := by
          have h5 : t ∈ [24, 60, 92] := by simpa using Array.mem_of_getElem? ht
          simp only [List.mem_cons, List.not_mem_nil, or_false] at h5 ⊢
          rcases h5 with h | h | h
          · exact .inl h
          · exact .inr (.inl h)
          · exact .inr (.inr h)
        exact (show Tryz.prog.wantsStandIn t = false by simpa using List.all_eq_true.1 hc_stand t hm)⟩)
    hc_goes
end Go.Proofs.YtmnocohggpmjcaaGreatDoor
