/- The law BranchEvenings of the plays (kelirlaw09): for every story and night its function returns true, and each argument reads afterwards as it read before. Condition: the listed tables of the library lie in the memory as the program's text lays them; the card ties that to the text. -/
import Derived.Test.YtkjalecddameoaaGreatDoorTie
import Derived.Test.YtkjalecddameoaaGreatDoorKkF
import Derived.Test.YtkjalecddameoaaGreatDoorQmShp
import Derived.Test.YtkjalecddameoaaGreatDoorQnEve
import Derived.Test.YtkjalecddameoaaGreatDoorJfEvenings
import Derived.Test.YtkjalecddameoaaGreatDoorJhEvenings
set_option linter.all false
namespace Go.Proofs.YtkjalecddameoaaGreatDoor
open Go Go.Pv Go.RowKit Go.Proofs
set_option maxRecDepth 100000
theorem Bx(pvs:List PV)(h:shpA [(stTS,true),(ntTS,true)] pvs):ab Tryz.prog 17 pvs [] (.ret (.bool true)) []:=by
 obtain⟨a1,q,rfl,h1,h⟩:=rI h;obtain⟨a2,q,rfl,h2,h⟩:=rI h;obtain rfl:=shpA_nil h;obtain⟨s,rfl,hok⟩:=st_of h1;obtain⟨n,rfl⟩:=nt_of h2;exact By c21_ok s hok n
theorem Be(os:Os)(started:os.Started)(H:Type)(enc:TypeId×Value->H):
 ReturnsInHanded {} Tryz.checked os 17 .any (fun w args=>(Rows.branchEveningsSpec.pre enc Tryz.prog Tryz.f17 [] false w args∧laidMetH Tryz.prog mV w)∧sizedMet enc Tryz.prog Tryz.f17 (OpenSpec.ofChange Rows.branchEveningsSpec) false w args)
  (Rows.branchEveningsSpec.post enc Tryz.prog Tryz.f17 false true false false) :=
 vT (ts:=[25,63]) Tryz.func17 (by kernel_rfl) (by rw[Tryz.params17]) (by kernel_rfl) rfl (by kernel_rfl) (by kernel_rfl)
  (fun H ds h=>by
   match ds,h with
   |[d1,d2],_=>exact⟨rfl,rfl,rfl⟩)
  Bx os started H enc
  (ChangeSpec.witness_shaped (enc:=enc) (C:=Tryz.checked) (os:=os) (X:=fun w _=>laidMetH Tryz.prog mV w) false (World.laidAll Tryz.prog os mV) #[.agg #[.int .i64 0,.slice none 0 0,.slice none 0 0],.agg #[.int .i64 0,.int .i64 0,.int .i64 0,.int .i64 0,.int .i64 0,.int .i64 0,.int .i64 0]] 8 (World.laidAll_os _ _ _)
   (World.shaped_of_ZipB (by kernel_rfl) (by kernel_rfl)) (by kernel_rfl) (by kernel_rfl) (by kernel_rfl)
   (by rw[mL];exact laidMet_laidAll _ (by kernel_rfl) (by kernel_rfl)))
theorem evenings_row:Rows.BranchEveningsSaid :=
 OpenClaim.holds_of_wide 17 Tryz.f17 rfl rfl rfl rfl rfl rfl rfl ⟨rfl,rfl,rfl,rfl,rfl⟩ rfl rfl rfl rfl rfl (by kernel_rfl) Tryz.func17 jfacts
  (of_decide_eq_true (by kernel_rfl)) (by unfold Func.isWrapper;first|(rw[if_pos (by decide +kernel)];kernel_rfl)|(rw[if_neg (by decide +kernel)];exact⟨rfl,rfl⟩))
  (fun os started H enc _=>Be os started H enc)
theorem evenings_holds:Rows.BranchEveningsCardSaid :=
 Claim7.holds_tied_plain_at .later [] [.data,.data,.data,.data,.pinned] true (true,"e2cdac6cbfd65e7accb0a425eebd3ce2db0511a20d4eb8676fad3249ad37c305") true
  evenings_row (fun _ h=>by cases h) hc_wf (fun _ h=>by cases h) branchEvenings_row_tie rfl ⟨rfl,rfl⟩ hc_main rfl
  (fun f fn hf hfn=>by
   obtain rfl:f=17:=Option.some.inj (hc_named.symm.trans hf)|>.symm;obtain rfl:fn=Tryz.f17:=(Option.some.inj (Tryz.func17.symm.trans hfn)).symm;exact⟨hc_looks,fun j t ht=>by
    rw[Tryz.params17]at ht;have hm:t∈[25,63]:=by
     have h5:t∈[25,63]:=by simpa using Array.mem_of_getElem? ht
     simp only[List.mem_cons,List.not_mem_nil,or_false]at h5 ⊢;rcases h5 with h|h
     ·exact .inl h
     ·exact .inr h
    exact(show Tryz.prog.wantsStandIn t=false by simpa using List.all_eq_true.1 hc_stand t hm)⟩)
  hc_goes
end Go.Proofs.YtkjalecddameoaaGreatDoor
