/- The law BranchFollows of the plays (kelirlaw09): for every story and two lists of numbers its function returns true, and each argument reads afterwards as it read before. Condition: the listed tables of the library lie in the memory as the program's text lays them; the card ties that to the text. -/
import Derived.Test.YtkjalecddameoaaGreatDoorCards
import Derived.Test.YtkjalecddameoaaGreatDoorTie
import Derived.SevenTiedAt
import Derived.Test.YtkjalecddameoaaGreatDoorKkF
import Derived.Test.YtkjalecddameoaaGreatDoorQfLem
import Derived.Test.YtkjalecddameoaaGreatDoorQjFollows
import Derived.Test.YtkjalecddameoaaGreatDoorJfFollows
import Derived.Test.YtkjalecddameoaaGreatDoorJhFollows
set_option linter.all false
namespace Go.Proofs.YtkjalecddameoaaGreatDoor
open Go Go.Pv Go.RowKit Go.Proofs
set_option maxRecDepth 100000
theorem follows_law (pvs : List PV) (h : shpA [(stTS, true), (isTS, false), (isTS, false)] pvs) : CallOk Tryz.prog 6 pvs [] (.ret (.bool true)) [] := by
 obtain ⟨a1, q, rfl, h1, h⟩ := shpA_cons h
 obtain ⟨a2, q, rfl, h2, h⟩ := shpA_cons h
 obtain ⟨a3, q, rfl, h3, h⟩ := shpA_cons h
 obtain rfl := shpA_nil h
 obtain ⟨s, rfl, hs⟩ := st_of h1
 obtain ⟨z, b, rfl, hz⟩ := is_of h2
 obtain ⟨y, q, rfl, hy⟩ := is_of h3
 exact law_follows c21_ok s hs z b hz y q hy
theorem follows_lifted (os : Os) (started : os.Started) (H : Type) (enc : TypeId × Value → H) :
 ReturnsInHanded {} Tryz.checked os 6 .any (fun w args => (Rows.branchFollowsSpec.pre enc Tryz.prog Tryz.f6 [] false w args ∧ laidMetH Tryz.prog laidJ w) ∧ sizedMet enc Tryz.prog Tryz.f6 (OpenSpec.ofChange Rows.branchFollowsSpec) false w args)
  (Rows.branchFollowsSpec.post enc Tryz.prog Tryz.f6 false true false false) :=
 law_lifted (ts := [25, 26, 26]) Tryz.func6 (by kernel_rfl) (by rw [Tryz.params6]) (by kernel_rfl) rfl (by kernel_rfl) (by kernel_rfl)
  (fun H ds h => by
   match ds, h with
   | [d1, d2, d3], _ => exact ⟨rfl, rfl, rfl⟩)
  follows_law os started H enc
  (ChangeSpec.witness_shaped (enc := enc) (C := Tryz.checked) (os := os) (X := fun w _ => laidMetH Tryz.prog laidJ w) false (World.laidAll Tryz.prog os laidJ) #[.agg #[.int .i64 0, .slice none 0 0, .slice none 0 0], .slice none 0 0, .slice none 0 0] 8 (World.laidAll_os _ _ _)
   (World.shaped_of_ZipB (by kernel_rfl) (by kernel_rfl)) (by kernel_rfl) (by kernel_rfl) (by kernel_rfl)
   (by rw [laidJ_plain]; exact laidMet_laidAll _ (by kernel_rfl) (by kernel_rfl)))
theorem follows_row : Rows.BranchFollowsSaid :=
 OpenClaim.holds_of_wide 6 Tryz.f6 rfl rfl rfl rfl rfl rfl rfl ⟨rfl, rfl, rfl, rfl, rfl⟩ rfl rfl rfl rfl rfl (by kernel_rfl) Tryz.func6 jfacts
  (of_decide_eq_true (by kernel_rfl)) (by unfold Func.isWrapper; first | (rw [if_pos (by decide +kernel)]; kernel_rfl) | (rw [if_neg (by decide +kernel)]; exact ⟨rfl, rfl⟩))
  (fun os started H enc _ => follows_lifted os started H enc)
theorem follows_holds : Rows.BranchFollowsCardSaid :=
 Claim7.holds_tied_plain_at .later [] [.data, .data, .data, .data, .pinned] true (true, "e2cdac6cbfd65e7accb0a425eebd3ce2db0511a20d4eb8676fad3249ad37c305") true
  follows_row (fun _ h => by cases h) hc_wf (fun _ h => by cases h) branchFollows_row_tie rfl ⟨rfl, rfl⟩ hc_main rfl
  (fun f fn hf hfn => by
   obtain rfl : f = 6 := Option.some.inj (hc_named.symm.trans hf) |>.symm
   obtain rfl : fn = Tryz.f6 := (Option.some.inj (Tryz.func6.symm.trans hfn)).symm
   exact ⟨hc_looks, fun j t ht => by
    rw [Tryz.params6] at ht
    have hm : t ∈ [25, 26] := by
     have h5 : t ∈ [25, 26, 26] := by simpa using Array.mem_of_getElem? ht
     simp only [List.mem_cons, List.not_mem_nil, or_false] at h5 ⊢
     rcases h5 with h | h | h
     ·exact .inl h
     ·exact .inr h
     ·exact .inr h
    exact (show Tryz.prog.wantsStandIn t = false by simpa using List.all_eq_true.1 hc_stand t hm)⟩)
  hc_goes
end Go.Proofs.YtkjalecddameoaaGreatDoor
