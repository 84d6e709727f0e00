/- The law TopMusic (kelirtop): for every book of cues, version, story and places its function returns true, and each argument reads afterwards as it read before. -/
import Derived.LaidLaws
import Derived.Test.YtkahmnpcfghpiaaGreatQzMus
import Derived.Test.YtkahmnpcfghpiaaGreatJfMusic
set_option linter.all false
namespace Go.Proofs.YtkahmnpcfghpiaaGreat
open Go Go.Pv Go.RowKit Go.Proofs
set_option maxRecDepth 100000
theorem K8(pvs:List PV)(h:shpA [(bkTS,true),(eu,false),(stTS,true),(eu,false),(eu,false)] pvs):ab Tryz.prog 4 pvs [] (.ret (.bool true)) []:=by
 obtain⟨a1,q,rfl,h1,h⟩:=rI h;obtain⟨a2,q,rfl,h2,h⟩:=rI h;obtain⟨a3,q,rfl,h3,h⟩:=rI h;obtain⟨a4,q,rfl,h4,h⟩:=rI h;obtain⟨a5,q,rfl,h5,h⟩:=rI h;obtain rfl:=shpA_nil h;obtain⟨b,rfl,hb⟩:=bk_of h1;obtain⟨w,rfl⟩:=Kx h2;obtain⟨s,rfl,hok⟩:=st_of h3;obtain⟨m1,rfl⟩:=Kx h4;obtain⟨m2,rfl⟩:=Kx h5;exact KU b hb w s hok m1 m2
theorem J6(os:Os)(started:os.Started)(H:Type)(enc:TypeId×Value->H):
 ReturnsInHanded {} Tryz.checked os 4 .any (fun w args=>Rows.topMusicSpec.pre enc Tryz.prog Tryz.f4 [] false w args∧sizedMet enc Tryz.prog Tryz.f4 (OpenSpec.ofChange Rows.topMusicSpec) false w args)
  (Rows.topMusicSpec.post enc Tryz.prog Tryz.f4 false true false false) :=
 vT (ts:=[59,3,25,3,3]) Tryz.func4 (by kernel_rfl) (by rw[Tryz.params4]) (by kernel_rfl) rfl (by kernel_rfl) (by kernel_rfl)
  (fun H ds h=>by
   match ds,h with
   |[d1,d2,d3,d4,d5],_=>exact⟨rfl,rfl,rfl⟩)
  K8 os started H enc
  (ChangeSpec.witness_shaped (enc:=enc) (C:=Tryz.checked) (os:=os) (X:=fun _ _=>True) false (World.laidAll Tryz.prog os []) #[.agg #[.int .i64 0,.int .i64 0,.slice none 0 0],.int .i64 0,.agg #[.int .i64 0,.slice none 0 0,.slice none 0 0],.int .i64 0,.int .i64 0] 8 (World.laidAll_os _ _ _)
   (World.shaped_of_ZipB (by kernel_rfl) (by kernel_rfl)) (by kernel_rfl) (by kernel_rfl) (by kernel_rfl) trivial)
theorem music_holds:Rows.TopMusicSaid :=
 OpenClaim.holds_of_wide 4 Tryz.f4 rfl rfl rfl rfl rfl rfl rfl ⟨rfl,rfl,rfl,rfl,rfl⟩ rfl rfl rfl rfl rfl (by kernel_rfl) Tryz.func4 jfacts
  (of_decide_eq_true (by kernel_rfl)) (by unfold Func.isWrapper;first|(rw[if_pos (by decide +kernel)];kernel_rfl)|(rw[if_neg (by decide +kernel)];exact⟨rfl,rfl⟩))
  (fun os started H enc _=>J6 os started H enc)
end Go.Proofs.YtkahmnpcfghpiaaGreat
