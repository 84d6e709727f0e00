/- The law BranchProof of the plays (kelirlaw09): for every story, night, number and two lists of numbers its function returns true, and each argument reads afterwards as it read before. Condition: the listed tables of the library lie in the memory as the program's text lays them; the card ties that to the text. -/
import Derived.Test.YtkjalecddameoaaGreatDoorTie
import Derived.Test.YtkjalecddameoaaGreatDoorKkF
import Derived.Test.YtkjalecddameoaaGreatDoorSmShp
import Derived.Test.YtkjalecddameoaaGreatDoorSnProof
import Derived.Test.YtkjalecddameoaaGreatDoorJfProof
import Derived.Test.YtkjalecddameoaaGreatDoorJhProof
set_option linter.all false
namespace Go.Proofs.YtkjalecddameoaaGreatDoor
open Go Go.Pv Go.RowKit Go.Proofs
set_option maxRecDepth 100000
theorem proof_law(pvs:List PV)(h:shpA [(stTS,true),(ntTS,true),(eu,false),(isTS,false),(isTS,false)] pvs):ab Tryz.prog 16 pvs [] (.ret (.bool true)) []:=by
 obtain⟨a1,q,rfl,h1,h⟩:=rI h;obtain⟨a2,q,rfl,h2,h⟩:=rI h;obtain⟨a3,q,rfl,h3,h⟩:=rI h;obtain⟨a4,q,rfl,h4,h⟩:=rI h;obtain⟨a5,q,rfl,h5,h⟩:=rI h;obtain rfl:=shpA_nil h;obtain⟨s,rfl,hok⟩:=st_of h1;obtain⟨n,rfl⟩:=nt_of h2;obtain⟨w,rfl⟩:=int_of h3;obtain⟨zc,c,rfl,hzc⟩:=is_of h4;obtain⟨zk,ks,rfl,hzk⟩:=is_of h5;exact law_proof c21_ok s hok n w zc c hzc zk ks hzk
theorem proof_lifted(os:Os)(started:os.Started)(H:Type)(enc:TypeId×Value->H):
 ReturnsInHanded {} Tryz.checked os 16 .any (fun w args=>(Rows.branchProofSpec.pre enc Tryz.prog Tryz.f16 [] false w args∧laidMetH Tryz.prog mV w)∧sizedMet enc Tryz.prog Tryz.f16 (OpenSpec.ofChange Rows.branchProofSpec) false w args)
  (Rows.branchProofSpec.post enc Tryz.prog Tryz.f16 false true false false) :=
 vT (ts:=[25,63,3,26,26]) Tryz.func16 (by kernel_rfl) (by rw[Tryz.params16]) (by kernel_rfl) rfl (by kernel_rfl) (by kernel_rfl)
  (fun H ds h=>by
   match ds,h with
   |[d1,d2,d3,d4,d5],_=>exact⟨rfl,rfl,rfl⟩)
  proof_law os started H enc
  (ChangeSpec.witness_shaped (enc:=enc) (C:=Tryz.checked) (os:=os) (X:=fun w _=>laidMetH Tryz.prog mV w) false (World.laidAll Tryz.prog os mV) #[.agg #[.int .i64 0,.slice none 0 0,.slice none 0 0],.agg #[.int .i64 0,.int .i64 0,.int .i64 0,.int .i64 0,.int .i64 0,.int .i64 0,.int .i64 0],.int .i64 0,.slice none 0 0,.slice none 0 0] 8 (World.laidAll_os _ _ _)
   (World.shaped_of_ZipB (by kernel_rfl) (by kernel_rfl)) (by kernel_rfl) (by kernel_rfl) (by kernel_rfl)
   (by rw[mL];exact laidMet_laidAll _ (by kernel_rfl) (by kernel_rfl)))
theorem proof_row:Rows.BranchProofSaid :=
 OpenClaim.holds_of_wide 16 Tryz.f16 rfl rfl rfl rfl rfl rfl rfl ⟨rfl,rfl,rfl,rfl,rfl⟩ rfl rfl rfl rfl rfl (by kernel_rfl) Tryz.func16 jfacts
  (of_decide_eq_true (by kernel_rfl)) (by unfold Func.isWrapper;first|(rw[if_pos (by decide +kernel)];kernel_rfl)|(rw[if_neg (by decide +kernel)];exact⟨rfl,rfl⟩))
  (fun os started H enc _=>proof_lifted os started H enc)
theorem proof_holds:Rows.BranchProofCardSaid :=
 Claim7.holds_tied_plain_at .later [] [.data,.data,.data,.data,.pinned] true (true,"e2cdac6cbfd65e7accb0a425eebd3ce2db0511a20d4eb8676fad3249ad37c305") true
  proof_row (fun _ h=>by cases h) hc_wf (fun _ h=>by cases h) branchProof_row_tie rfl ⟨rfl,rfl⟩ hc_main rfl
  (fun f fn hf hfn=>by
   obtain rfl:f=16:=Option.some.inj (hc_named.symm.trans hf)|>.symm;obtain rfl:fn=Tryz.f16:=(Option.some.inj (Tryz.func16.symm.trans hfn)).symm;exact⟨hc_looks,fun j t ht=>by
    rw[Tryz.params16]at ht;have hm:t∈[25,63,3,26]:=by
     have h5:t∈[25,63,3,26,26]:=by simpa using Array.mem_of_getElem? ht
     simp only[List.mem_cons,List.not_mem_nil,or_false]at h5 ⊢;rcases h5 with h|h|h|h|h
     ·exact .inl h
     ·exact .inr (.inl h)
     ·exact .inr (.inr (.inl h))
     ·exact .inr (.inr (.inr h))
     ·exact .inr (.inr (.inr h))
    exact(show Tryz.prog.wantsStandIn t=false by simpa using List.all_eq_true.1 hc_stand t hm)⟩)
  hc_goes
end Go.Proofs.YtkjalecddameoaaGreatDoor
