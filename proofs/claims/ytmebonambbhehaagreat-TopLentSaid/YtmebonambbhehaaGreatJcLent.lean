/- The law TopLent (kelirtop): for every register of hides, find and list of figures its function returns true, and each argument reads afterwards as it read before. -/
import Derived.LaidLaws
import Derived.Test.YtmebonambbhehaaGreatQtLaw
import Derived.Test.YtmebonambbhehaaGreatJfLent
set_option linter.all false
namespace Go.Proofs.YtmebonambbhehaaGreat
open Go Go.Pv Go.RowKit Go.Proofs
set_option maxRecDepth 100000
theorem lent_law(pvs:List PV)(h:shpA [(rgTS,true),(isTS,false),(chTS,true)] pvs):ab Tryz.prog 3 pvs [] (.ret (.bool true)) []:=by
 obtain⟨a1,q,rfl,h1,h⟩:=rI h;obtain⟨a2,q,rfl,h2,h⟩:=rI h;obtain⟨a3,q,rfl,h3,h⟩:=rI h;obtain rfl:=shpA_nil h;obtain⟨r,rfl,hr⟩:=rg_of h1;obtain⟨z,f,rfl,hz⟩:=is_of h2;obtain⟨c,rfl,hc⟩:=ch_of h3;exact law_lent r hr z f hz c hc
theorem Nh(os:Os)(started:os.Started)(H:Type)(enc:TypeId×Value->H):
 ReturnsInHanded {} Tryz.checked os 3 .any (fun w args=>Rows.topLentSpec.pre enc Tryz.prog Tryz.f3 [] false w args∧sizedMet enc Tryz.prog Tryz.f3 (OpenSpec.ofChange Rows.topLentSpec) false w args)
  (Rows.topLentSpec.post enc Tryz.prog Tryz.f3 false true false false) :=
 vT (ts:=[27,28,31]) Tryz.func3 (by kernel_rfl) (by rw[Tryz.params3]) (by kernel_rfl) rfl (by kernel_rfl) (by kernel_rfl)
  (fun H ds h=>by
   match ds,h with
   |[d1,d2,d3],_=>exact⟨rfl,rfl,rfl⟩)
  lent_law os started H enc
  (ChangeSpec.witness_shaped (enc:=enc) (C:=Tryz.checked) (os:=os) (X:=fun _ _=>True) false (World.laidAll Tryz.prog os []) #[.agg #[.slice none 0 0,.slice none 0 0,.int .i64 0,.int .i64 0,.int .i64 0,.int .i64 0,.int .i64 0,.int .i64 0],.slice none 0 0,.agg #[.int .i64 0,.int .i64 0,.slice none 0 0]] 8 (World.laidAll_os _ _ _)
   (World.shaped_of_ZipB (by kernel_rfl) (by kernel_rfl)) (by kernel_rfl) (by kernel_rfl) (by kernel_rfl) trivial)
theorem lent_holds:Rows.TopLentSaid :=
 OpenClaim.holds_of_wide 3 Tryz.f3 rfl rfl rfl rfl rfl rfl rfl ⟨rfl,rfl,rfl,rfl,rfl⟩ rfl rfl rfl rfl rfl (by kernel_rfl) Tryz.func3 jfacts
  (of_decide_eq_true (by kernel_rfl)) (by unfold Func.isWrapper;first|(rw[if_pos (by decide +kernel)];kernel_rfl)|(rw[if_neg (by decide +kernel)];exact⟨rfl,rfl⟩))
  (fun os started H enc _=>Nh os started H enc)
end Go.Proofs.YtmebonambbhehaaGreat
