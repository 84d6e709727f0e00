/- The law BranchSpoilt of the plays (kelirlaw09): for every story, byte and digit its function returns true, and each argument reads afterwards as it read before. Condition: the listed tables of the library lie in the memory as the program's text lays them; the card ties that to the text. -/
import Derived.Test.YtkjalecddameoaaGreatDoorCards
import Derived.Test.YtkjalecddameoaaGreatDoorTie
import Derived.SevenTiedAt
import Derived.Test.YtkjalecddameoaaGreatDoorKkF
import Derived.Test.YtkjalecddameoaaGreatDoorQfLem
import Derived.Test.YtkjalecddameoaaGreatDoorQjSpoilt
import Derived.Test.YtkjalecddameoaaGreatDoorJfSpoilt
import Derived.Test.YtkjalecddameoaaGreatDoorJhSpoilt
set_option linter.all false
namespace Go.Proofs.YtkjalecddameoaaGreatDoor
open Go Go.Pv Go.RowKit Go.Proofs
set_option maxRecDepth 100000
theorem spoilt_law (pvs:List PV) (h:shpA [(stTS,true),(intTS,false),(intTS,false)] pvs):CallOk Tryz.prog 15 pvs [] (.ret (.bool true)) []:=by
 obtain ⟨a1,q,rfl,h1,h⟩:=shpA_cons h
 obtain ⟨a2,q,rfl,h2,h⟩:=shpA_cons h
 obtain ⟨a3,q,rfl,h3,h⟩:=shpA_cons h
 obtain rfl:=shpA_nil h
 obtain ⟨s,rfl,hs⟩:=st_of h1
 obtain ⟨x,rfl⟩:=int_of h2
 obtain ⟨d,rfl⟩:=int_of h3
 exact law_spoilt c21_ok s hs x d
theorem spoilt_lifted (os:Os) (started:os.Started) (H:Type) (enc:TypeId × Value→H) :
 ReturnsInHanded {} Tryz.checked os 15 .any (fun w args=>(Rows.branchSpoiltSpec.pre enc Tryz.prog Tryz.f15 [] false w args∧laidMetH Tryz.prog laidJ w)∧sizedMet enc Tryz.prog Tryz.f15 (OpenSpec.ofChange Rows.branchSpoiltSpec) false w args)
  (Rows.branchSpoiltSpec.post enc Tryz.prog Tryz.f15 false true false false) :=
 law_lifted (ts:=[25,3,3]) Tryz.func15 (by kernel_rfl) (by rw [Tryz.params15]) (by kernel_rfl) rfl (by kernel_rfl) (by kernel_rfl)
  (fun H ds h=>by
   match ds,h with
   | [d1,d2,d3],_=>exact ⟨rfl,rfl,rfl⟩)
  spoilt_law os started H enc
  (ChangeSpec.witness_shaped (enc:=enc) (C:=Tryz.checked) (os:=os) (X:=fun w _=>laidMetH Tryz.prog laidJ w) false (World.laidAll Tryz.prog os laidJ) #[.agg #[.int .i64 0,.slice none 0 0,.slice none 0 0],.int .i64 0,.int .i64 0] 8 (World.laidAll_os _ _ _)
   (World.shaped_of_ZipB (by kernel_rfl) (by kernel_rfl)) (by kernel_rfl) (by kernel_rfl) (by kernel_rfl)
   (by rw [laidJ_plain];exact laidMet_laidAll _ (by kernel_rfl) (by kernel_rfl)))
theorem spoilt_row:Rows.BranchSpoiltSaid :=
 OpenClaim.holds_of_wide 15 Tryz.f15 rfl rfl rfl rfl rfl rfl rfl ⟨rfl,rfl,rfl,rfl,rfl⟩ rfl rfl rfl rfl rfl (by kernel_rfl) Tryz.func15 jfacts
  (of_decide_eq_true (by kernel_rfl)) (by unfold Func.isWrapper;first | (rw [if_pos (by decide +kernel)];kernel_rfl) | (rw [if_neg (by decide +kernel)];exact ⟨rfl,rfl⟩))
  (fun os started H enc _=>spoilt_lifted os started H enc)
theorem spoilt_holds:Rows.BranchSpoiltCardSaid :=
 Claim7.holds_tied_plain_at .later [] [.data,.data,.data,.data,.pinned] true (true,"e2cdac6cbfd65e7accb0a425eebd3ce2db0511a20d4eb8676fad3249ad37c305") true
  spoilt_row (fun _ h=>by cases h) hc_wf (fun _ h=>by cases h) branchSpoilt_row_tie rfl ⟨rfl,rfl⟩ hc_main rfl
  (fun f fn hf hfn=>by
   obtain rfl:f = 15:=Option.some.inj (hc_named.symm.trans hf) |>.symm
   obtain rfl:fn = Tryz.f15:=(Option.some.inj (Tryz.func15.symm.trans hfn)).symm
   exact ⟨hc_looks,fun j t ht=>by
    rw [Tryz.params15] at ht
    have hm:t ∈ [25,3]:=by
     have h5:t ∈ [25,3,3]:=by simpa using Array.mem_of_getElem? ht
     simp only [List.mem_cons,List.not_mem_nil,or_false] at h5 ⊢
     rcases h5 with h | h | h
     ·exact .inl h
     ·exact .inr h
     ·exact .inr h
    exact (show Tryz.prog.wantsStandIn t = false by simpa using List.all_eq_true.1 hc_stand t hm)⟩)
  hc_goes
end Go.Proofs.YtkjalecddameoaaGreatDoor
