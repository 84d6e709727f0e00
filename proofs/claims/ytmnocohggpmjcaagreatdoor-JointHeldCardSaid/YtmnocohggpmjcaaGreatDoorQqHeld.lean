/- The law JointHeld: its function returns true, whatever it is given. -/
import Derived.Test.YtmnocohggpmjcaaGreatDoorQpHands
import Derived.Test.YtmnocohggpmjcaaGreatDoorQkBase
set_option linter.all false
namespace Go.Pv
open Go Go.RowKit Go.Proofs
set_option maxRecDepth 10000
set_option maxHeartbeats 4000000

def c70 : List PV → List Box → Option (PRes × List Box)
  | [v, w, p], sg => match decFig v, decStg w, decIs1 p with
    | some (s, ls), some g, some ps => some (.ret (fineR s ls g ps), sg)
    | _, _, _ => none
  | _, _ => none
theorem c70_ok : ConOk Tryz.prog 70 c70 := ConOk.of0 (ent Tryz.func70 rfl) fun args sg r sg' h => by
  unfold c70 at h
  split at h <;> try (cases h; done)
  split at h <;> cases h
  rename_i h1 h2 h3
  obtain ⟨z, rfl, hz⟩ := decFig_inv h1
  obtain ⟨zh, zr, rfl, hh, hr⟩ := decStg_inv h2
  obtain ⟨zp, rfl, hp⟩ := decIs1_inv h3
  exact ⟨_, rfl, rfl, by rw [ltBL_cons, ltB_fig, ltBL_cons, ltB_stg, ltBL_cons, ltB_isl]; rfl, Fine_70 _ _ _ _ _ _ _ _ (zOk_n' hz) hh hr (zOk_n' hp)⟩
def c52 : List PV → List Box → Option (PRes × List Box)
  | [v, w], sg => match decFig v, decStg w with
    | some (s, ls), some g => some (.ret (firstR s ls g), sg)
    | _, _ => none
  | _, _ => none
theorem c52_ok : ConOk Tryz.prog 52 c52 := ConOk.of0 (ent Tryz.func52 rfl) fun args sg r sg' h => by
  unfold c52 at h
  split at h <;> try (cases h; done)
  split at h <;> cases h
  rename_i h1 h2
  obtain ⟨z, rfl, hz⟩ := decFig_inv h1
  obtain ⟨zh, zr, rfl, hh, hr⟩ := decStg_inv h2
  exact ⟨_, rfl, rfl, by rw [ltBL_cons, ltB_fig, ltBL_cons, ltB_stg]; rfl, First_52 _ _ _ _ _ _ (zOk_n' hz) hh hr⟩
def cfHe : CallF := cfAdd (cfAdd (cfAdd (cfAdd (cfAdd (cfAdd (cfAdd cf0 43 c43) 27 c86) 29 c29) 67 c67) 70 c70) 52 c52) 66 c66
theorem cfHe_ok (hk : ConOk Tryz.prog 29 c29) : CallFOk Tryz.prog cfHe := cfAdd_ok (cfAdd_ok (cfAdd_ok (cfAdd_ok (cfAdd_ok (cfAdd_ok (cfAdd_ok cf0_ok c43_ok) c27_ok) hk) c67_ok) c70_ok) c52_ok) c66_ok

theorem firstR_of {s : Int} {ls : List Lb} {g : Stg} (hf : figB s ls = true) (hg : stgG ls g = true) :
    (finesG s ls g = [] ∧ firstR s ls g = .tuple [.sl .n [], ii 0, ii 5]) ∨ ∃ z l r, finesG s ls g = l :: r ∧ zOk z (l.map ii) = true ∧ firstR s ls g = .tuple [.sl z (l.map ii), ii ((r.length : Int) + 1), ii 0] := by
  unfold firstR
  rw [if_pos ⟨hf, hg⟩]
  cases h : finesG s ls g with
  | nil => exact .inl ⟨rfl, rfl⟩
  | cons l r =>
    obtain ⟨z, hz, hk⟩ := pvL_z l
    exact .inr ⟨z, l, r, rfl, hk, by show PV.tuple [pvL l, ii ((r.length : Int) + 1), ii 0] = _; rw [hz]⟩

theorem held_18 (hk : ConOk Tryz.prog 29 c29) (s : Int) (z zh zr zp : Z) (ls : List Lb) (g : Stg) (ps : List Int) (w : Int) (hzo : zOk z (ls.map encLb) = true) (hh : zOk zh (g.hs.map encFld) = true) (hr : zOk zr (g.rs.map ii) = true) (hp : zOk zp (ps.map ii) = true) :
    CallOk Tryz.prog 18 [.agg [ii s, .sl z (ls.map encLb)], encStg zh zr g, .sl zp (ps.map ii), ii w] [] (.ret (.bool true)) [] := by
  refine CallOk.of0 hTT Tryz.func18 rfl rfl ?_
  have hd := decFig_enc s z ls hzo
  have hd2 := decStg_enc hh hr
  have hd3 := decIs1_enc hp
  cases h1 : rightG s ls g
  · unfold encStg at hd2 ⊢
    repeat (first | (with_reducible refine RegQ.nil ?_) | (with_reducible refine RunQ.seq ?_) | (with_reducible refine RunQ.block ?_) | (with_reducible refine RunQ.skip ?_) | (with_reducible refine RunQ.label ?_) | (with_reducible refine RunQ.ret ?_) | (with_reducible refine RunQ.exit ?_) | (with_reducible refine thenQ.n ?_) | (with_reducible refine thenQ.r ?_) | (with_reducible refine thenQ.x ?_) | (with_reducible refine thenQ.p ?_) | (with_reducible refine blockQ.n ?_) | (with_reducible refine blockQ.r ?_) | (with_reducible refine blockQ.x ?_) | (with_reducible refine blockQ.y rfl ?_) | (with_reducible refine blockQ.p ?_) | (with_reducible refine roundQ.r ?_) | (with_reducible refine roundQ.x ?_) | (with_reducible refine roundQ.p ?_) | (with_reducible apply RegQ.step; (focus (simp only [Tryz.f18, cfHe, c43, c29, hd, hd2, h1, go_sem]; with_reducible rfl))) | (with_reducible refine RunQ.reg hTT (cfHe_ok hk) noM_ok ?_) | (with_reducible apply DrawQ.step; (focus (simp only [Tryz.f18, cfHe, c43, c29, hd, hd2, h1, go_sem]; with_reducible rfl))) | (with_reducible refine DrawQ.nil ?_; refine And.intro ?_ ?_; (focus kernel_rfl)) | (with_reducible apply RunQ.drawn [] hTT (cfHe_ok hk) noM_ok mixed; (focus kernel_rfl); (focus (simp only [Tryz.f18, cfHe, c43, c29, hd, hd2, h1, go_sem]; with_reducible rfl))) | (with_reducible apply RunQ.condT; (focus (simp only [Tryz.f18, cfHe, c43, c29, hd, hd2, h1, go_sem]; done))) | (with_reducible apply RunQ.condF; (focus (simp only [Tryz.f18, cfHe, c43, c29, hd, hd2, h1, go_sem]; done))))
    exact ⟨rfl, rfl, _, rfl, rfl⟩
  by_cases h2 : (8 : Int) < ps.length
  · unfold encStg at hd2 ⊢
    repeat (first | (with_reducible refine RegQ.nil ?_) | (with_reducible refine RunQ.seq ?_) | (with_reducible refine RunQ.block ?_) | (with_reducible refine RunQ.skip ?_) | (with_reducible refine RunQ.label ?_) | (with_reducible refine RunQ.ret ?_) | (with_reducible refine RunQ.exit ?_) | (with_reducible refine thenQ.n ?_) | (with_reducible refine thenQ.r ?_) | (with_reducible refine thenQ.x ?_) | (with_reducible refine thenQ.p ?_) | (with_reducible refine blockQ.n ?_) | (with_reducible refine blockQ.r ?_) | (with_reducible refine blockQ.x ?_) | (with_reducible refine blockQ.y rfl ?_) | (with_reducible refine blockQ.p ?_) | (with_reducible refine roundQ.r ?_) | (with_reducible refine roundQ.x ?_) | (with_reducible refine roundQ.p ?_) | (with_reducible apply RegQ.step; (focus (simp only [Tryz.f18, cfHe, c43, c29, hd, hd2, h1, h2, gt_iff_lt, go_sem]; with_reducible rfl))) | (with_reducible refine RunQ.reg hTT (cfHe_ok hk) noM_ok ?_) | (with_reducible apply DrawQ.step; (focus (simp only [Tryz.f18, cfHe, c43, c29, hd, hd2, h1, h2, gt_iff_lt, go_sem]; with_reducible rfl))) | (with_reducible refine DrawQ.nil ?_; refine And.intro ?_ ?_; (focus kernel_rfl)) | (with_reducible apply RunQ.drawn [] hTT (cfHe_ok hk) noM_ok mixed; (focus kernel_rfl); (focus (simp only [Tryz.f18, cfHe, c43, c29, hd, hd2, h1, h2, gt_iff_lt, go_sem]; with_reducible rfl))) | (with_reducible apply RunQ.condT; (focus (simp only [Tryz.f18, cfHe, c43, c29, hd, hd2, h1, h2, gt_iff_lt, go_sem]; done))) | (with_reducible apply RunQ.condF; (focus (simp only [Tryz.f18, cfHe, c43, c29, hd, hd2, h1, h2, gt_iff_lt, go_sem]; done))))
    exact ⟨rfl, rfl, _, rfl, rfl⟩
  have hrr : figB s ls = true ∧ stgG ls g = true := by
    unfold rightG at h1
    simp only [Bool.and_eq_true] at h1
    exact ⟨h1.1.2, h1.2⟩
  have hl := fig_len hrr.1
  have hs : ls.length ≤ 1000 := by omega
  cases h3 : poseG ls ps
  · unfold encStg at hd2 ⊢
    repeat (first | (with_reducible refine RegQ.nil ?_) | (with_reducible refine RunQ.seq ?_) | (with_reducible refine RunQ.block ?_) | (with_reducible refine RunQ.skip ?_) | (with_reducible refine RunQ.label ?_) | (with_reducible refine RunQ.ret ?_) | (with_reducible refine RunQ.exit ?_) | (with_reducible refine thenQ.n ?_) | (with_reducible refine thenQ.r ?_) | (with_reducible refine thenQ.x ?_) | (with_reducible refine thenQ.p ?_) | (with_reducible refine blockQ.n ?_) | (with_reducible refine blockQ.r ?_) | (with_reducible refine blockQ.x ?_) | (with_reducible refine blockQ.y rfl ?_) | (with_reducible refine blockQ.p ?_) | (with_reducible refine roundQ.r ?_) | (with_reducible refine roundQ.x ?_) | (with_reducible refine roundQ.p ?_) | (with_reducible apply RegQ.step; (focus (simp only [Tryz.f18, cfHe, c43, c29, c86, hd, hd2, hd3, hs, h1, h2, h3, gt_iff_lt, go_sem]; with_reducible rfl))) | (with_reducible refine RunQ.reg hTT (cfHe_ok hk) noM_ok ?_) | (with_reducible apply DrawQ.step; (focus (simp only [Tryz.f18, cfHe, c43, c29, c86, hd, hd2, hd3, hs, h1, h2, h3, gt_iff_lt, go_sem]; with_reducible rfl))) | (with_reducible refine DrawQ.nil ?_; refine And.intro ?_ ?_; (focus kernel_rfl)) | (with_reducible apply RunQ.drawn [] hTT (cfHe_ok hk) noM_ok mixed; (focus kernel_rfl); (focus (simp only [Tryz.f18, cfHe, c43, c29, c86, hd, hd2, hd3, hs, h1, h2, h3, gt_iff_lt, go_sem]; with_reducible rfl))) | (with_reducible apply RunQ.condT; (focus (simp only [Tryz.f18, cfHe, c43, c29, c86, hd, hd2, hd3, hs, h1, h2, h3, gt_iff_lt, go_sem]; done))) | (with_reducible apply RunQ.condF; (focus (simp only [Tryz.f18, cfHe, c43, c29, c86, hd, hd2, hd3, hs, h1, h2, h3, gt_iff_lt, go_sem]; done))))
    exact ⟨rfl, rfl, _, rfl, rfl⟩
  by_cases h4 : w < 0
  · unfold encStg at hd2 ⊢
    repeat (first | (with_reducible refine RegQ.nil ?_) | (with_reducible refine RunQ.seq ?_) | (with_reducible refine RunQ.block ?_) | (with_reducible refine RunQ.skip ?_) | (with_reducible refine RunQ.label ?_) | (with_reducible refine RunQ.ret ?_) | (with_reducible refine RunQ.exit ?_) | (with_reducible refine thenQ.n ?_) | (with_reducible refine thenQ.r ?_) | (with_reducible refine thenQ.x ?_) | (with_reducible refine thenQ.p ?_) | (with_reducible refine blockQ.n ?_) | (with_reducible refine blockQ.r ?_) | (with_reducible refine blockQ.x ?_) | (with_reducible refine blockQ.y rfl ?_) | (with_reducible refine blockQ.p ?_) | (with_reducible refine roundQ.r ?_) | (with_reducible refine roundQ.x ?_) | (with_reducible refine roundQ.p ?_) | (with_reducible apply RegQ.step; (focus (simp only [Tryz.f18, cfHe, c43, c29, c86, hd, hd2, hd3, hs, h1, h2, h3, h4, gt_iff_lt, go_sem]; with_reducible rfl))) | (with_reducible refine RunQ.reg hTT (cfHe_ok hk) noM_ok ?_) | (with_reducible apply DrawQ.step; (focus (simp only [Tryz.f18, cfHe, c43, c29, c86, hd, hd2, hd3, hs, h1, h2, h3, h4, gt_iff_lt, go_sem]; with_reducible rfl))) | (with_reducible refine DrawQ.nil ?_; refine And.intro ?_ ?_; (focus kernel_rfl)) | (with_reducible apply RunQ.drawn [] hTT (cfHe_ok hk) noM_ok mixed; (focus kernel_rfl); (focus (simp only [Tryz.f18, cfHe, c43, c29, c86, hd, hd2, hd3, hs, h1, h2, h3, h4, gt_iff_lt, go_sem]; with_reducible rfl))) | (with_reducible apply RunQ.condT; (focus (simp only [Tryz.f18, cfHe, c43, c29, c86, hd, hd2, hd3, hs, h1, h2, h3, h4, gt_iff_lt, go_sem]; done))) | (with_reducible apply RunQ.condF; (focus (simp only [Tryz.f18, cfHe, c43, c29, c86, hd, hd2, hd3, hs, h1, h2, h3, h4, gt_iff_lt, go_sem]; done))))
    exact ⟨rfl, rfl, _, rfl, rfl⟩
  by_cases h5 : 1000 < w
  · unfold encStg at hd2 ⊢
    repeat (first | (with_reducible refine RegQ.nil ?_) | (with_reducible refine RunQ.seq ?_) | (with_reducible refine RunQ.block ?_) | (with_reducible refine RunQ.skip ?_) | (with_reducible refine RunQ.label ?_) | (with_reducible refine RunQ.ret ?_) | (with_reducible refine RunQ.exit ?_) | (with_reducible refine thenQ.n ?_) | (with_reducible refine thenQ.r ?_) | (with_reducible refine thenQ.x ?_) | (with_reducible refine thenQ.p ?_) | (with_reducible refine blockQ.n ?_) | (with_reducible refine blockQ.r ?_) | (with_reducible refine blockQ.x ?_) | (with_reducible refine blockQ.y rfl ?_) | (with_reducible refine blockQ.p ?_) | (with_reducible refine roundQ.r ?_) | (with_reducible refine roundQ.x ?_) | (with_reducible refine roundQ.p ?_) | (with_reducible apply RegQ.step; (focus (simp only [Tryz.f18, cfHe, c43, c29, c86, hd, hd2, hd3, hs, h1, h2, h3, h4, h5, gt_iff_lt, go_sem]; with_reducible rfl))) | (with_reducible refine RunQ.reg hTT (cfHe_ok hk) noM_ok ?_) | (with_reducible apply DrawQ.step; (focus (simp only [Tryz.f18, cfHe, c43, c29, c86, hd, hd2, hd3, hs, h1, h2, h3, h4, h5, gt_iff_lt, go_sem]; with_reducible rfl))) | (with_reducible refine DrawQ.nil ?_; refine And.intro ?_ ?_; (focus kernel_rfl)) | (with_reducible apply RunQ.drawn [] hTT (cfHe_ok hk) noM_ok mixed; (focus kernel_rfl); (focus (simp only [Tryz.f18, cfHe, c43, c29, c86, hd, hd2, hd3, hs, h1, h2, h3, h4, h5, gt_iff_lt, go_sem]; with_reducible rfl))) | (with_reducible apply RunQ.condT; (focus (simp only [Tryz.f18, cfHe, c43, c29, c86, hd, hd2, hd3, hs, h1, h2, h3, h4, h5, gt_iff_lt, go_sem]; done))) | (with_reducible apply RunQ.condF; (focus (simp only [Tryz.f18, cfHe, c43, c29, c86, hd, hd2, hd3, hs, h1, h2, h3, h4, h5, gt_iff_lt, go_sem]; done))))
    exact ⟨rfl, rfl, _, rfl, rfl⟩
  obtain ⟨f0, f1, r0, r1, H⟩ := stgIn (s := s) hrr.2
  have hw0 : 0 ≤ w := by omega
  have hw1 : w ≤ 1000 := by omega
  have hzh : zh ≠ .n := fun e => by subst e; rw [H.hs] at hh; cases hh
  have hzr : zr ≠ .n := fun e => by subst e; rw [H.rs] at hr; cases hr
  have hlen8 : ps.length ≤ maxLen := by unfold maxLen; omega
  obtain ⟨e, hs', rs'⟩ := g
  obtain rfl : hs' = [f0, f1] := H.hs
  obtain rfl : rs' = [r0, r1] := H.rs
  have he : fldB e = true := H.e
  obtain ⟨gx, hgx⟩ : ∃ gx : Stg, gx = ⟨e, [f1, f0], [r1, r0]⟩ := ⟨_, rfl⟩
  obtain ⟨gy, hgy⟩ : ∃ gy : Stg, gy = ⟨e, [f0, f1], [r1, r0]⟩ := ⟨_, rfl⟩
  obtain ⟨gz, hgz⟩ : ∃ gz : Stg, gz = ⟨widG e w, [widG f0 w, f1], [r0, r1]⟩ := ⟨_, rfl⟩
  have hl0 : limbG ls r0 = true := by have := H.l0; simp [limbG, inB]; omega
  have hl1 : limbG ls r1 = true := by have := H.l1; simp [limbG, inB]; omega
  have hne := H.ne
  have sx : stgG ls gx = true := by rw [hgx]; simp [stgG, he, H.a, H.b, hl0, hl1, Ne.symm hne]
  have sy : stgG ls gy = true := by rw [hgy]; simp [stgG, he, H.a, H.b, hl0, hl1, Ne.symm hne]
  have sz : stgG ls gz = true := by rw [hgz]; simp [stgG, fld_wid he hw0, fld_wid H.a hw0, H.b, hl0, hl1, hne]
  have fx : finG s ls gx ps = finG s ls ⟨e, [f0, f1], [r0, r1]⟩ ps := by rw [hgx]; exact fineG_x _ _ _ _ _ _ _ _
  have fy : finG s ls gy ps = finG s ls ⟨e, [f0, f1], [r0, r1]⟩ ps := by rw [hgy]; exact fineG_y _ _ _ _ _ _ _ _
  have fz : ∀ qs, finG s ls ⟨e, [f0, f1], [r0, r1]⟩ qs = true → finG s ls gz qs = true := fun qs h => by rw [hgz]; exact fineG_z he H.a hw0 h
  have hmono := fines_mono fz
  have hR : ∀ g' : Stg, stgG ls g' = true → fineR s ls g' ps = .tuple [.bool (finG s ls g' ps), ii 0] := fun g' h => by unfold fineR; rw [if_pos ⟨hrr.1, h, h3⟩]
  have R0 := hR _ hrr.2
  have Rx := hR _ sx
  have Ry := hR _ sy
  have Rz := hR _ sz
  rw [fx] at Rx
  rw [fy] at Ry
  have hdx : decStg (.agg [ii e.a, ii e.b, ii e.c, ii e.d, .sl .f [.agg [ii f1.a, ii f1.b, ii f1.c, ii f1.d], .agg [ii f0.a, ii f0.b, ii f0.c, ii f0.d]], .sl .f [ii r1, ii r0]]) = some gx := by rw [hgx]; rfl
  have hdy : decStg (.agg [ii e.a, ii e.b, ii e.c, ii e.d, .sl zh [.agg [ii f0.a, ii f0.b, ii f0.c, ii f0.d], .agg [ii f1.a, ii f1.b, ii f1.c, ii f1.d]], .sl .f [ii r1, ii r0]]) = some gy := by
    rw [hgy]; exact decStg_enc (zh := zh) (zr := .f) (g := ⟨e, [f0, f1], [r1, r0]⟩) hh rfl
  have hdz : decStg (.agg [ii (widG e w).a, ii (widG e w).b, ii (widG e w).c, ii (widG e w).d, .sl .f [.agg [ii (widG f0 w).a, ii (widG f0 w).b, ii (widG f0 w).c, ii (widG f0 w).d], .agg [ii f1.a, ii f1.b, ii f1.c, ii f1.d]], .sl zr [ii r0, ii r1]]) = some gz := by
    rw [hgz]; exact decStg_enc (zh := .f) (zr := zr) (g := ⟨widG e w, [widG f0 w, f1], [r0, r1]⟩) rfl hr
  have hde : decFld (.agg [ii e.a, ii e.b, ii e.c, ii e.d]) = some e := rfl
  have hdf : decFld (.agg [ii f0.a, ii f0.b, ii f0.c, ii f0.d]) = some f0 := rfl
  have ha := H.a
  generalize hg0 : (⟨e, [f0, f1], [r0, r1]⟩ : Stg) = g0 at *
  have hd2' : decStg (.agg [ii e.a, ii e.b, ii e.c, ii e.d, .sl zh [.agg [ii f0.a, ii f0.b, ii f0.c, ii f0.d], .agg [ii f1.a, ii f1.b, ii f1.c, ii f1.d]], .sl zr [ii r0, ii r1]]) = some g0 := by rw [← hd2, ← hg0]; rfl
  have hE : encStg zh zr g0 = .agg [ii e.a, ii e.b, ii e.c, ii e.d, .sl zh [.agg [ii f0.a, ii f0.b, ii f0.c, ii f0.d], .agg [ii f1.a, ii f1.b, ii f1.c, ii f1.d]], .sl zr [ii r0, ii r1]] := by rw [← hg0]; rfl
  rw [hE]
  repeat (first | (with_reducible refine RegQ.nil ?_) | ((fail_if_success (with_reducible refine RunQ.seq (x := .region 10 _ _) ?_)); (with_reducible refine RunQ.seq ?_)) | (with_reducible refine RunQ.block ?_) | (with_reducible refine RunQ.skip ?_) | (with_reducible refine RunQ.label ?_) | (with_reducible refine RunQ.ret ?_) | (with_reducible refine RunQ.exit ?_) | (with_reducible refine thenQ.n ?_) | (with_reducible refine thenQ.r ?_) | (with_reducible refine thenQ.x ?_) | (with_reducible refine thenQ.p ?_) | (with_reducible refine blockQ.n ?_) | (with_reducible refine blockQ.r ?_) | (with_reducible refine blockQ.x ?_) | (with_reducible refine blockQ.y rfl ?_) | (with_reducible refine blockQ.p ?_) | (with_reducible refine roundQ.r ?_) | (with_reducible refine roundQ.x ?_) | (with_reducible refine roundQ.p ?_) | (with_reducible apply RegQ.step; (focus (simp only [Tryz.f18, cfHe, c43, c29, c67, c86, encFld, hd, hd2', hd3, hde, hdf, he, ha, hw0, hw1, hs, h1, h2, h3, h4, h5, hzh, hzr, gt_iff_lt, go_sem]; with_reducible rfl))) | (with_reducible refine RunQ.reg hTT (cfHe_ok hk) noM_ok ?_) | (with_reducible apply DrawQ.step; (focus (simp only [Tryz.f18, cfHe, c43, c29, c67, c86, encFld, hd, hd2', hd3, hde, hdf, he, ha, hw0, hw1, hs, h1, h2, h3, h4, h5, hzh, hzr, gt_iff_lt, go_sem]; with_reducible rfl))) | (with_reducible refine DrawQ.nil ?_; refine And.intro ?_ ?_; (focus kernel_rfl)) | (with_reducible apply RunQ.drawn [] hTT (cfHe_ok hk) noM_ok mixed; (focus kernel_rfl); (focus (simp only [Tryz.f18, cfHe, c43, c29, c67, c86, encFld, hd, hd2', hd3, hde, hdf, he, ha, hw0, hw1, hs, h1, h2, h3, h4, h5, hzh, hzr, gt_iff_lt, go_sem]; with_reducible rfl))) | (with_reducible apply RunQ.condT; (focus (simp only [Tryz.f18, cfHe, c43, c29, c67, c86, encFld, hd, hd2', hd3, hde, hdf, he, ha, hw0, hw1, hs, h1, h2, h3, h4, h5, hzh, hzr, gt_iff_lt, go_sem]; done))) | (with_reducible apply RunQ.condF; (focus (simp only [Tryz.f18, cfHe, c43, c29, c67, c86, encFld, hd, hd2', hd3, hde, hdf, he, ha, hw0, hw1, hs, h1, h2, h3, h4, h5, hzh, hzr, gt_iff_lt, go_sem]; done))))
  refine RunQ.keep [2, 3, 4, 5, 8, 9, 10, 11] (by simp only [go_sem]; rfl) ?_
  have b50 : ((5 : Int) != 0) = true := rfl
  have b50' : ((5 : Int) == 0) = false := rfl
  have fz' := fz ps
  generalize hA : finG s ls g0 ps = a at R0 Rx Ry fz'
  generalize hD : finG s ls gz ps = d at Rz fz'
  rcases firstR_of hrr.1 hrr.2 with ⟨e0, RF⟩ | ⟨zl, l, r, e0, hzl, RF⟩
  · have ha' : a = false := by
      cases a with
      | false => rfl
      | true => exact absurd e0 (fines_ne h3 hA)
    subst ha'
    rcases firstR_of hrr.1 sz with ⟨e1, RZ⟩ | ⟨zm, l', r', e1, hzm, RZ⟩
    · repeat (first | (with_reducible refine RegQ.nil ?_) | (with_reducible refine RunQ.seq ?_) | (with_reducible refine RunQ.block ?_) | (with_reducible refine RunQ.skip ?_) | (with_reducible refine RunQ.label ?_) | (with_reducible refine RunQ.ret ?_) | (with_reducible refine RunQ.exit ?_) | (with_reducible refine thenQ.n ?_) | (with_reducible refine thenQ.r ?_) | (with_reducible refine thenQ.x ?_) | (with_reducible refine thenQ.p ?_) | (with_reducible refine blockQ.n ?_) | (with_reducible refine blockQ.r ?_) | (with_reducible refine blockQ.x ?_) | (with_reducible refine blockQ.y rfl ?_) | (with_reducible refine blockQ.p ?_) | (with_reducible refine roundQ.r ?_) | (with_reducible refine roundQ.x ?_) | (with_reducible refine roundQ.p ?_) | (with_reducible apply RegQ.step; (focus (simp only [Tryz.f18, cfHe, c29, c52, c70, hd, hd2', hd3, hdx, hdy, hdz, R0, Rx, Ry, Rz, RF, RZ, b50, b50', gt_iff_lt, beq_self_eq_true, go_sem]; with_reducible rfl))) | (with_reducible refine RunQ.reg hTT (cfHe_ok hk) noM_ok ?_) | (with_reducible apply DrawQ.step; (focus (simp only [Tryz.f18, cfHe, c29, c52, c70, hd, hd2', hd3, hdx, hdy, hdz, R0, Rx, Ry, Rz, RF, RZ, b50, b50', gt_iff_lt, beq_self_eq_true, go_sem]; with_reducible rfl))) | (with_reducible refine DrawQ.nil ?_; refine And.intro ?_ ?_; (focus kernel_rfl)) | (with_reducible apply RunQ.drawn [] hTT (cfHe_ok hk) noM_ok mixed; (focus kernel_rfl); (focus (simp only [Tryz.f18, cfHe, c29, c52, c70, hd, hd2', hd3, hdx, hdy, hdz, R0, Rx, Ry, Rz, RF, RZ, b50, b50', gt_iff_lt, beq_self_eq_true, go_sem]; with_reducible rfl))) | (with_reducible apply RunQ.condT; (focus (simp only [Tryz.f18, cfHe, c29, c52, c70, hd, hd2', hd3, hdx, hdy, hdz, R0, Rx, Ry, Rz, RF, RZ, b50, b50', gt_iff_lt, beq_self_eq_true, go_sem]; done))) | (with_reducible apply RunQ.condF; (focus (simp only [Tryz.f18, cfHe, c29, c52, c70, hd, hd2', hd3, hdx, hdy, hdz, R0, Rx, Ry, Rz, RF, RZ, b50, b50', gt_iff_lt, beq_self_eq_true, go_sem]; done))))
      exact ⟨rfl, rfl, _, rfl, rfl⟩
    · have hn : ¬ ((r'.length : Int) + 1 < 0) := by omega
      repeat (first | (with_reducible refine RegQ.nil ?_) | (with_reducible refine RunQ.seq ?_) | (with_reducible refine RunQ.block ?_) | (with_reducible refine RunQ.skip ?_) | (with_reducible refine RunQ.label ?_) | (with_reducible refine RunQ.ret ?_) | (with_reducible refine RunQ.exit ?_) | (with_reducible refine thenQ.n ?_) | (with_reducible refine thenQ.r ?_) | (with_reducible refine thenQ.x ?_) | (with_reducible refine thenQ.p ?_) | (with_reducible refine blockQ.n ?_) | (with_reducible refine blockQ.r ?_) | (with_reducible refine blockQ.x ?_) | (with_reducible refine blockQ.y rfl ?_) | (with_reducible refine blockQ.p ?_) | (with_reducible refine roundQ.r ?_) | (with_reducible refine roundQ.x ?_) | (with_reducible refine roundQ.p ?_) | (with_reducible apply RegQ.step; (focus (simp only [Tryz.f18, cfHe, c29, c52, c70, hd, hd2', hd3, hdx, hdy, hdz, R0, Rx, Ry, Rz, RF, RZ, hn, b50, b50', gt_iff_lt, beq_self_eq_true, go_sem]; with_reducible rfl))) | (with_reducible refine RunQ.reg hTT (cfHe_ok hk) noM_ok ?_) | (with_reducible apply DrawQ.step; (focus (simp only [Tryz.f18, cfHe, c29, c52, c70, hd, hd2', hd3, hdx, hdy, hdz, R0, Rx, Ry, Rz, RF, RZ, hn, b50, b50', gt_iff_lt, beq_self_eq_true, go_sem]; with_reducible rfl))) | (with_reducible refine DrawQ.nil ?_; refine And.intro ?_ ?_; (focus kernel_rfl)) | (with_reducible apply RunQ.drawn [] hTT (cfHe_ok hk) noM_ok mixed; (focus kernel_rfl); (focus (simp only [Tryz.f18, cfHe, c29, c52, c70, hd, hd2', hd3, hdx, hdy, hdz, R0, Rx, Ry, Rz, RF, RZ, hn, b50, b50', gt_iff_lt, beq_self_eq_true, go_sem]; with_reducible rfl))) | (with_reducible apply RunQ.condT; (focus (simp only [Tryz.f18, cfHe, c29, c52, c70, hd, hd2', hd3, hdx, hdy, hdz, R0, Rx, Ry, Rz, RF, RZ, hn, b50, b50', gt_iff_lt, beq_self_eq_true, go_sem]; done))) | (with_reducible apply RunQ.condF; (focus (simp only [Tryz.f18, cfHe, c29, c52, c70, hd, hd2', hd3, hdx, hdy, hdz, R0, Rx, Ry, Rz, RF, RZ, hn, b50, b50', gt_iff_lt, beq_self_eq_true, go_sem]; done))))
      exact ⟨rfl, rfl, _, rfl, rfl⟩
  · rcases firstR_of hrr.1 sz with ⟨e1, RZ⟩ | ⟨zm, l', r', e1, hzm, RZ⟩
    · rw [e0, e1] at hmono
      exact absurd hmono (by simp)
    · have hn : ¬ ((r'.length : Int) + 1 < (r.length : Int) + 1) := by
        rw [e0, e1] at hmono
        simp at hmono
        omega
      have hdl := decIs1_enc hzl
      cases a with
      | false =>
        repeat (first | (with_reducible refine RegQ.nil ?_) | (with_reducible refine RunQ.seq ?_) | (with_reducible refine RunQ.block ?_) | (with_reducible refine RunQ.skip ?_) | (with_reducible refine RunQ.label ?_) | (with_reducible refine RunQ.ret ?_) | (with_reducible refine RunQ.exit ?_) | (with_reducible refine thenQ.n ?_) | (with_reducible refine thenQ.r ?_) | (with_reducible refine thenQ.x ?_) | (with_reducible refine thenQ.p ?_) | (with_reducible refine blockQ.n ?_) | (with_reducible refine blockQ.r ?_) | (with_reducible refine blockQ.x ?_) | (with_reducible refine blockQ.y rfl ?_) | (with_reducible refine blockQ.p ?_) | (with_reducible refine roundQ.r ?_) | (with_reducible refine roundQ.x ?_) | (with_reducible refine roundQ.p ?_) | (with_reducible apply RegQ.step; (focus (simp only [Tryz.f18, cfHe, c29, c52, c70, hd, hd2', hd3, hdx, hdy, hdz, R0, Rx, Ry, Rz, RF, RZ, hn, b50, b50', gt_iff_lt, beq_self_eq_true, go_sem]; with_reducible rfl))) | (with_reducible refine RunQ.reg hTT (cfHe_ok hk) noM_ok ?_) | (with_reducible apply DrawQ.step; (focus (simp only [Tryz.f18, cfHe, c29, c52, c70, hd, hd2', hd3, hdx, hdy, hdz, R0, Rx, Ry, Rz, RF, RZ, hn, b50, b50', gt_iff_lt, beq_self_eq_true, go_sem]; with_reducible rfl))) | (with_reducible refine DrawQ.nil ?_; refine And.intro ?_ ?_; (focus kernel_rfl)) | (with_reducible apply RunQ.drawn [] hTT (cfHe_ok hk) noM_ok mixed; (focus kernel_rfl); (focus (simp only [Tryz.f18, cfHe, c29, c52, c70, hd, hd2', hd3, hdx, hdy, hdz, R0, Rx, Ry, Rz, RF, RZ, hn, b50, b50', gt_iff_lt, beq_self_eq_true, go_sem]; with_reducible rfl))) | (with_reducible apply RunQ.condT; (focus (simp only [Tryz.f18, cfHe, c29, c52, c70, hd, hd2', hd3, hdx, hdy, hdz, R0, Rx, Ry, Rz, RF, RZ, hn, b50, b50', gt_iff_lt, beq_self_eq_true, go_sem]; done))) | (with_reducible apply RunQ.condF; (focus (simp only [Tryz.f18, cfHe, c29, c52, c70, hd, hd2', hd3, hdx, hdy, hdz, R0, Rx, Ry, Rz, RF, RZ, hn, b50, b50', gt_iff_lt, beq_self_eq_true, go_sem]; done))))
        exact ⟨rfl, rfl, _, rfl, rfl⟩
      | true =>
        have hd' : d = true := fz' rfl
        subst hd'
        have hbef := fines_first e0 h3 hA
        repeat (first | (with_reducible refine RegQ.nil ?_) | (with_reducible refine RunQ.seq ?_) | (with_reducible refine RunQ.block ?_) | (with_reducible refine RunQ.skip ?_) | (with_reducible refine RunQ.label ?_) | (with_reducible refine RunQ.ret ?_) | (with_reducible refine RunQ.exit ?_) | (with_reducible refine thenQ.n ?_) | (with_reducible refine thenQ.r ?_) | (with_reducible refine thenQ.x ?_) | (with_reducible refine thenQ.p ?_) | (with_reducible refine blockQ.n ?_) | (with_reducible refine blockQ.r ?_) | (with_reducible refine blockQ.x ?_) | (with_reducible refine blockQ.y rfl ?_) | (with_reducible refine blockQ.p ?_) | (with_reducible refine roundQ.r ?_) | (with_reducible refine roundQ.x ?_) | (with_reducible refine roundQ.p ?_) | (with_reducible apply RegQ.step; (focus (simp only [Tryz.f18, cfHe, c29, c52, c66, c70, hd, hd2', hd3, hdl, hlen8, hdx, hdy, hdz, R0, Rx, Ry, Rz, RF, RZ, hn, hbef, b50, b50', gt_iff_lt, beq_self_eq_true, go_sem]; with_reducible rfl))) | (with_reducible refine RunQ.reg hTT (cfHe_ok hk) noM_ok ?_) | (with_reducible apply DrawQ.step; (focus (simp only [Tryz.f18, cfHe, c29, c52, c66, c70, hd, hd2', hd3, hdl, hlen8, hdx, hdy, hdz, R0, Rx, Ry, Rz, RF, RZ, hn, hbef, b50, b50', gt_iff_lt, beq_self_eq_true, go_sem]; with_reducible rfl))) | (with_reducible refine DrawQ.nil ?_; refine And.intro ?_ ?_; (focus kernel_rfl)) | (with_reducible apply RunQ.drawn [] hTT (cfHe_ok hk) noM_ok mixed; (focus kernel_rfl); (focus (simp only [Tryz.f18, cfHe, c29, c52, c66, c70, hd, hd2', hd3, hdl, hlen8, hdx, hdy, hdz, R0, Rx, Ry, Rz, RF, RZ, hn, hbef, b50, b50', gt_iff_lt, beq_self_eq_true, go_sem]; with_reducible rfl))) | (with_reducible apply RunQ.condT; (focus (simp only [Tryz.f18, cfHe, c29, c52, c66, c70, hd, hd2', hd3, hdl, hlen8, hdx, hdy, hdz, R0, Rx, Ry, Rz, RF, RZ, hn, hbef, b50, b50', gt_iff_lt, beq_self_eq_true, go_sem]; done))) | (with_reducible apply RunQ.condF; (focus (simp only [Tryz.f18, cfHe, c29, c52, c66, c70, hd, hd2', hd3, hdl, hlen8, hdx, hdy, hdz, R0, Rx, Ry, Rz, RF, RZ, hn, hbef, b50, b50', gt_iff_lt, beq_self_eq_true, go_sem]; done))))
        exact ⟨rfl, rfl, _, rfl, rfl⟩
end Go.Pv
