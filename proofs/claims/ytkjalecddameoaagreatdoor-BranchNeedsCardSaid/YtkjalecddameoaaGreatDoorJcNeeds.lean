/- The law BranchNeeds of the plays (kelirlaw09): for every story and night its function returns true, and each argument reads afterwards as it read before. Condition: the listed tables of the library lie in the memory as the program's text lays them; the card ties that to the text. -/
import Derived.Test.YtkjalecddameoaaGreatDoorTie
import Derived.Test.YtkjalecddameoaaGreatDoorKkF
import Derived.Test.YtkjalecddameoaaGreatDoorQnNeeds
import Derived.Test.YtkjalecddameoaaGreatDoorJfNeeds
import Derived.Test.YtkjalecddameoaaGreatDoorJhNeeds
set_option linter.all false
namespace Go.Proofs.YtkjalecddameoaaGreatDoor
open Go Go.Pv Go.RowKit Go.Proofs
set_option maxRecDepth 100000
theorem Io(pvs:List PV)(h:shpA [(stTS,true),(ntTS,true)] pvs):ab Tryz.prog 9 pvs [] (.ret (.bool true)) []:=by
 obtain⟨a1,q,rfl,h1,h⟩:=rI h;obtain⟨a2,q,rfl,h2,h⟩:=rI h;obtain rfl:=JS h;obtain⟨s,rfl,hok⟩:=st_of h1;obtain⟨n,rfl⟩:=nt_of h2;exact IF c21_ok s hok n
theorem HG(os:Os)(started:os.Started)(H:Type)(enc:TypeId×Value->H):
 ReturnsInHanded {} Tryz.checked os 9 .any (fun w args=>(Rows.branchNeedsSpec.pre enc Tryz.prog Tryz.f9 [] false w args∧laidMetH Tryz.prog mV w)∧sizedMet enc Tryz.prog Tryz.f9 (OpenSpec.ofChange Rows.branchNeedsSpec) false w args)
  (Rows.branchNeedsSpec.post enc Tryz.prog Tryz.f9 false true false false) :=
 vT (ts:=[25,63]) Tryz.func9 (by kernel_rfl) (by rw[Tryz.params9]) (by kernel_rfl) rfl (by kernel_rfl) (by kernel_rfl)
  (fun H ds h=>by
   match ds,h with
   |[d1,d2],_=>exact⟨rfl,rfl,rfl⟩)
  Io os started H enc
  (ChangeSpec.witness_shaped (enc:=enc) (C:=Tryz.checked) (os:=os) (X:=fun w _=>laidMetH Tryz.prog mV w) false (World.laidAll Tryz.prog os mV) #[.agg #[.int .i64 0,.slice none 0 0,.slice none 0 0],.agg #[.int .i64 0,.int .i64 0,.int .i64 0,.int .i64 0,.int .i64 0,.int .i64 0,.int .i64 0]] 8 (World.laidAll_os _ _ _)
   (World.shaped_of_ZipB (by kernel_rfl) (by kernel_rfl)) (by kernel_rfl) (by kernel_rfl) (by kernel_rfl)
   (by rw[mL];exact laidMet_laidAll _ (by kernel_rfl) (by kernel_rfl)))
theorem needs_row:Rows.BranchNeedsSaid :=
 OpenClaim.holds_of_wide 9 Tryz.f9 rfl rfl rfl rfl rfl rfl rfl ⟨rfl,rfl,rfl,rfl,rfl⟩ rfl rfl rfl rfl rfl (by kernel_rfl) Tryz.func9 JW
  (of_decide_eq_true (by kernel_rfl)) (by unfold Func.isWrapper;first|(rw[if_pos (by decide +kernel)];kernel_rfl)|(rw[if_neg (by decide +kernel)];exact⟨rfl,rfl⟩))
  (fun os started H enc _=>HG os started H enc)
theorem needs_holds:Rows.BranchNeedsCardSaid :=
 Claim7.holds_tied_plain_at .later [] [.data,.data,.data,.data,.pinned] true (true,"e2cdac6cbfd65e7accb0a425eebd3ce2db0511a20d4eb8676fad3249ad37c305") true
  needs_row (fun _ h=>by cases h) hc_wf (fun _ h=>by cases h) branchNeeds_row_tie rfl ⟨rfl,rfl⟩ JR rfl
  (fun f fn hf hfn=>by
   obtain rfl:f=9:=Option.some.inj (JN.symm.trans hf)|>.symm;obtain rfl:fn=Tryz.f9:=(Option.some.inj (Tryz.func9.symm.trans hfn)).symm;exact⟨JP,fun j t ht=>by
    rw[Tryz.params9]at ht;have hm:t∈[25,63]:=by
     have h5:t∈[25,63]:=by simpa using Array.mem_of_getElem? ht
     simp only[List.mem_cons,List.not_mem_nil,or_false]at h5 ⊢;rcases h5 with h|h
     ·exact .inl h
     ·exact .inr h
    exact(show Tryz.prog.wantsStandIn t=false by simpa using List.all_eq_true.1 JO t hm)⟩)
  JQ
end Go.Proofs.YtkjalecddameoaaGreatDoor
