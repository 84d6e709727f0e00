/- The rows of this seat: shapes of lists of turns. -/
import Derived.Test.YtmnocohggpmjcaaGreatDoorQsShp
import Derived.Test.YtmnocohggpmjcaaGreatDoorQyTurn
import Derived.Test.YtmnocohggpmjcaaGreatDoorQmaGoes
import Derived.Test.YtmnocohggpmjcaaGreatDoorQxCard
import Derived.Test.YtmnocohggpmjcaaGreatDoorQgEnds
set_option linter.all false
namespace Go.Pv
open Go Go.RowKit Go.Proofs
set_option maxRecDepth 100000
def trsTS : TS := .sl spTS true
theorem trs_of {v : PV} (h : trsTS.shp v.cells ∧ v.ag = false) : ∃ (z : Z) (l : List (Int × Int)), v = .sl z (l.map encT) ∧ zOk z (l.map encT) = true := by
  obtain ⟨z, es, hc, hz, _, _, hel⟩ := (show ∃ z es, v.cells = [.sl z es] ∧ (z = .n → es = []) ∧ z ≠ .f ∧ es.length ≤ maxLen ∧ ∀ x ∈ es, spTS.shp x.cells ∧ x.ag = true from h.1)
  obtain ⟨l, rfl⟩ := map_of (g := encT) fun x hx => by
    obtain ⟨a, b, e⟩ := shp_sp (hel x hx).1
    exact ⟨(a, b), agg_of e (hel x hx).2⟩
  refine ⟨z, l, one_of hc h.2, ?_⟩
  cases z
  · have := hz rfl
    rw [this]; rfl
  · rfl
  · rfl
end Go.Pv
namespace Go.Pv
open Go Go.RowKit Go.Proofs
set_option maxRecDepth 200000
set_option maxHeartbeats 8000000
theorem dist_2000 {s : Int} {ls : List Lb} {g : Stg} {a b : List Int} (hf : figB s ls = true) (hp : poseG ls b = true) (hb : finG s ls g b = true) (h : hasK (awayG s ls g b) a = true) : dG (awayG s ls g b) a < 2000 := by
  have H := away_srch (g := g) hf hp hb
  obtain ⟨d, hd⟩ := hasK_iff.1 h
  obtain ⟨l, h1, h2, h3⟩ := dist_card H d a hd
  have h4 := nodup_len h2 (m := posesG ls) fun y hy => by
    obtain ⟨e, he, _⟩ := h3 y hy
    exact mem_poses.2 (H.pose _ he)
  have := poses_2000 hf
  rw [(dG_mem H hd).1]
  omega
/-- What is known of the way there and back. -/
structure WayOk (s : Int) (ls : List Lb) (g : Stg) (a b : List Int) (P B : List (Int × Int)) : Prop where
  le : P.length < 2000
  same : B.length = P.length
  go : goesG s ls g a b P = true
  back : goesG s ls g b a B = true
  min : ∀ o, goesG s ls g a b o = true → P.length ≤ o.length ∧ (o.length = P.length → soonG o P = false)
theorem way_ok {s : Int} {ls : List Lb} {g : Stg} {a b : List Int} (hf : figB s ls = true) (ha : poseG ls a = true) (hfa : finG s ls g a = true) (hb : poseG ls b = true) (hfb : finG s ls g b = true) (hk : hasK (awayG s ls g b) a = true) :
    WayOk s ls g a b (pathL s ls g (awayG s ls g b) (dG (awayG s ls g b) a).toNat a) (pathL s ls g (awayG s ls g a) (dG (awayG s ls g a) b).toNat b) := by
  have H := away_srch (g := g) hf hb hfb
  have H' := away_srch (g := g) hf ha hfa
  obtain ⟨e1, e2⟩ := met_sym (g := g) hf ha hfa hb hfb
  have hk' : hasK (awayG s ls g a) b = true := by rw [← e1]; exact hk
  have hbd := (dG_bd (s := s) (ls := ls) (g := g) (f := b) a).1
  have hlt := dist_2000 (g := g) hf hb hfb hk
  have hd := e2 hk
  have l1 := path_len H (dG (awayG s ls g b) a).toNat a hk (by omega)
  have l2 := path_len H' (dG (awayG s ls g a) b).toNat b hk' (by omega)
  refine ⟨by omega, by omega, path_goes H (fun x hx => away_zero hx) _ a hk (by omega), path_goes H' (fun x hx => away_zero hx) _ b hk' (by omega), fun o ho => ?_⟩
  have h1 := met_way hf hb hfb (way_back ha hfa (goes_way ho))
  refine ⟨by omega, fun hl => path_soon hf hb hfb _ a o hk (by omega) ho (by omega)⟩
def cfMe : CallF := cfAdd (cfAdd (cfAdd (cfAdd (cfAdd (cfAdd (cfAdd cf0 43 c43) 27 c86) 29 c29) 42 c42) 70 c70) 72 c72) 73 c73
theorem cfMe_ok (hk : ConOk Tryz.prog 29 c29) : CallFOk Tryz.prog cfMe := cfAdd_ok (cfAdd_ok (cfAdd_ok (cfAdd_ok (cfAdd_ok (cfAdd_ok (cfAdd_ok cf0_ok c43_ok) c27_ok) hk) c42_ok) c70_ok) c72_ok) c73_ok
theorem walked_19 (hk : ConOk Tryz.prog 29 c29) (s : Int) (z zh zr za zb zo : Z) (ls : List Lb) (g : Stg) (a b : List Int) (o : List (Int × Int)) (hzo : zOk z (ls.map encLb) = true) (hh : zOk zh (g.hs.map encFld) = true) (hr : zOk zr (g.rs.map ii) = true) (ha : zOk za (a.map ii) = true) (hb : zOk zb (b.map ii) = true) (ho : zOk zo (o.map encT) = true) :
    CallOk Tryz.prog 19 [.agg [ii s, .sl z (ls.map encLb)], encStg zh zr g, .sl za (a.map ii), .sl zb (b.map ii), .sl zo (o.map encT)] [] (.ret (.bool true)) [] := by
  refine CallOk.of0 hTT Tryz.func19 rfl rfl ?_
  have hd := decFig_enc s z ls hzo
  have hd2 := decStg_enc hh hr
  have hd3 := decIs1_enc ha
  have hd4 := decIs1_enc hb
  have hd5 := decTs1_enc ho
  unfold encStg at hd2 ⊢
  cases h1 : rightG s ls g
  · repeat (first | (with_reducible (first | apply wA | apply wB | apply wC | apply wD | apply wE | apply wF | apply wG | apply wH | apply wI | apply wJ | apply wK | apply wL | apply wM | apply wN | apply wO | apply wP | apply wQ rfl | apply wR | apply wS | apply wT | apply wU)) | ((with_reducible (first | apply wV | apply wW | apply wX | (apply wY [] hTT (cfMe_ok hk) noM_ok mixed; (focus kernel_rfl)))); (focus (simp only [Tryz.f19, cfMe, c43, c29, hd, hd2, h1, go_sem]; with_reducible rfl))) | (with_reducible refine wZ hTT (cfMe_ok hk) noM_ok ?_) | (with_reducible refine wa ?_; refine And.intro ?_ ?_; (focus kernel_rfl)))
    exact ⟨rfl, rfl, _, rfl, rfl⟩
  by_cases h2 : (8 : Int) < a.length
  · repeat (first | (with_reducible (first | apply wA | apply wB | apply wC | apply wD | apply wE | apply wF | apply wG | apply wH | apply wI | apply wJ | apply wK | apply wL | apply wM | apply wN | apply wO | apply wP | apply wQ rfl | apply wR | apply wS | apply wT | apply wU)) | ((with_reducible (first | apply wV | apply wW | apply wX | (apply wY [] hTT (cfMe_ok hk) noM_ok mixed; (focus kernel_rfl)))); (focus (simp only [Tryz.f19, cfMe, c43, c29, hd, hd2, h1, h2, gt_iff_lt, go_sem]; with_reducible rfl))) | (with_reducible refine wZ hTT (cfMe_ok hk) noM_ok ?_) | (with_reducible refine wa ?_; refine And.intro ?_ ?_; (focus kernel_rfl)))
    exact ⟨rfl, rfl, _, rfl, rfl⟩
  by_cases h3 : (8 : Int) < b.length
  · repeat (first | (with_reducible (first | apply wA | apply wB | apply wC | apply wD | apply wE | apply wF | apply wG | apply wH | apply wI | apply wJ | apply wK | apply wL | apply wM | apply wN | apply wO | apply wP | apply wQ rfl | apply wR | apply wS | apply wT | apply wU)) | ((with_reducible (first | apply wV | apply wW | apply wX | (apply wY [] hTT (cfMe_ok hk) noM_ok mixed; (focus kernel_rfl)))); (focus (simp only [Tryz.f19, cfMe, c43, c29, hd, hd2, h1, h2, h3, gt_iff_lt, go_sem]; with_reducible rfl))) | (with_reducible refine wZ hTT (cfMe_ok hk) noM_ok ?_) | (with_reducible refine wa ?_; refine And.intro ?_ ?_; (focus kernel_rfl)))
    exact ⟨rfl, rfl, _, rfl, rfl⟩
  by_cases h4 : (40 : Int) < o.length
  · repeat (first | (with_reducible (first | apply wA | apply wB | apply wC | apply wD | apply wE | apply wF | apply wG | apply wH | apply wI | apply wJ | apply wK | apply wL | apply wM | apply wN | apply wO | apply wP | apply wQ rfl | apply wR | apply wS | apply wT | apply wU)) | ((with_reducible (first | apply wV | apply wW | apply wX | (apply wY [] hTT (cfMe_ok hk) noM_ok mixed; (focus kernel_rfl)))); (focus (simp only [Tryz.f19, cfMe, c43, c29, hd, hd2, h1, h2, h3, h4, gt_iff_lt, go_sem]; with_reducible rfl))) | (with_reducible refine wZ hTT (cfMe_ok hk) noM_ok ?_) | (with_reducible refine wa ?_; refine And.intro ?_ ?_; (focus kernel_rfl)))
    exact ⟨rfl, rfl, _, rfl, rfl⟩
  have hrr : figB s ls = true ∧ stgG ls g = true := by
    unfold rightG at h1
    simp only [Bool.and_eq_true] at h1
    exact ⟨h1.1.2, h1.2⟩
  have hf := hrr.1
  have hg := hrr.2
  have hl := fig_len hf
  have hs2 : ls.length ≤ 1000 := by omega
  have ho5 : o.length ≤ 100000 := by omega
  have hom : o.length ≤ maxLen := by unfold maxLen; omega
  cases h5 : poseG ls a
  · repeat (first | (with_reducible (first | apply wA | apply wB | apply wC | apply wD | apply wE | apply wF | apply wG | apply wH | apply wI | apply wJ | apply wK | apply wL | apply wM | apply wN | apply wO | apply wP | apply wQ rfl | apply wR | apply wS | apply wT | apply wU)) | ((with_reducible (first | apply wV | apply wW | apply wX | (apply wY [] hTT (cfMe_ok hk) noM_ok mixed; (focus kernel_rfl)))); (focus (simp only [Tryz.f19, cfMe, c43, c29, c86, hd, hd2, hd3, hs2, h1, h2, h3, h4, h5, gt_iff_lt, go_sem]; with_reducible rfl))) | (with_reducible refine wZ hTT (cfMe_ok hk) noM_ok ?_) | (with_reducible refine wa ?_; refine And.intro ?_ ?_; (focus kernel_rfl)))
    exact ⟨rfl, rfl, _, rfl, rfl⟩
  cases h6 : poseG ls b
  · repeat (first | (with_reducible (first | apply wA | apply wB | apply wC | apply wD | apply wE | apply wF | apply wG | apply wH | apply wI | apply wJ | apply wK | apply wL | apply wM | apply wN | apply wO | apply wP | apply wQ rfl | apply wR | apply wS | apply wT | apply wU)) | ((with_reducible (first | apply wV | apply wW | apply wX | (apply wY [] hTT (cfMe_ok hk) noM_ok mixed; (focus kernel_rfl)))); (focus (simp only [Tryz.f19, cfMe, c43, c29, c86, hd, hd2, hd3, hd4, hs2, h1, h2, h3, h4, h5, h6, gt_iff_lt, go_sem]; with_reducible rfl))) | (with_reducible refine wZ hTT (cfMe_ok hk) noM_ok ?_) | (with_reducible refine wa ?_; refine And.intro ?_ ?_; (focus kernel_rfl)))
    exact ⟨rfl, rfl, _, rfl, rfl⟩
  have hFa : fineR s ls g a = .tuple [.bool (finG s ls g a), ii 0] := by unfold fineR; rw [if_pos ⟨hf, hg, h5⟩]
  have hFb : fineR s ls g b = .tuple [.bool (finG s ls g b), ii 0] := by unfold fineR; rw [if_pos ⟨hf, hg, h6⟩]
  have hP : ∀ a b, poseG ls a = true → poseG ls b = true → pathR s ls g a b = if finG s ls g a = true ∧ finG s ls g b = true then
      if hasK (awayG s ls g b) a = true then .tuple [trsP (pathL s ls g (awayG s ls g b) (dG (awayG s ls g b) a).toNat a), ii 0] else .tuple [.sl .n [], ii 5]
    else .tuple [.sl .n [], ii 7] := fun a b ha hb => by unfold pathR; rw [if_pos ⟨hf, hg, ha, hb⟩]
  have hP1 := hP a b h5 h6
  have hP2 := hP b a h6 h5
  have n00 : ((0 : Int) != 0) = false := rfl
  have e77 : ((7 : Int) == 7) = true := rfl
  have n77 : ((7 : Int) != 7) = false := rfl
  have n55 : ((5 : Int) != 5) = false := rfl
  have e57 : ((5 : Int) == 7) = false := rfl
  have e07 : ((0 : Int) == 7) = false := rfl
  have e55 : ((5 : Int) == 5) = true := rfl
  have n50 : ((5 : Int) != 0) = true := rfl
  have btt : (true != true) = false := rfl
  have bff : (false != false) = false := rfl
  repeat (first | (with_reducible (first | apply wA | ((fail_if_success (refine RunQ.seq (x := .region 3 _ _) ?_)); (apply wB)) | apply wC | apply wD | apply wE | apply wF | apply wG | apply wH | apply wI | apply wJ | apply wK | apply wL | apply wM | apply wN | apply wO | apply wP | apply wQ rfl | apply wR | apply wS | apply wT | apply wU)) | ((with_reducible (first | apply wV | apply wW | apply wX | (apply wY [] hTT (cfMe_ok hk) noM_ok mixed; (focus kernel_rfl)))); (focus (simp only [Tryz.f19, cfMe, c43, c29, c86, hd, hd2, hd3, hd4, hs2, h1, h2, h3, h4, h5, h6, gt_iff_lt, go_sem]; with_reducible rfl))) | ((fail_if_success (with_reducible show RunQ _ (.region 3 _ _) _ _)); (with_reducible refine wZ hTT (cfMe_ok hk) noM_ok ?_)) | (with_reducible refine wa ?_; refine And.intro ?_ ?_; (focus kernel_rfl)))
  refine RunQ.keep [6, 5, 2, 3, 4] (by simp only [go_sem]; rfl) ?_
  by_cases hff : finG s ls g a = true ∧ finG s ls g b = true
  case neg =>
    rw [if_neg hff] at hP1
    rw [if_neg fun e => hff ⟨e.2, e.1⟩] at hP2
    cases x1 : finG s ls g a <;> cases x2 : finG s ls g b
    case true.true => exact absurd ⟨x1, x2⟩ hff
    all_goals
      rw [x1] at hFa
      rw [x2] at hFb
      repeat (first | (with_reducible (first | apply wA | apply wB | apply wC | apply wD | apply wE | apply wF | apply wG | apply wH | apply wI | apply wJ | apply wK | apply wL | apply wM | apply wN | apply wO | apply wP | apply wQ rfl | apply wR | apply wS | apply wT | apply wU)) | ((with_reducible (first | apply wV | apply wW | apply wX | (apply wY [] hTT (cfMe_ok hk) noM_ok mixed; (focus kernel_rfl)))); (focus (simp only [Tryz.f19, cfMe, c42, c70, c29, hd, hd2, hd3, hd4, hP1, hP2, hFa, hFb, n00, n77, e77, btt, go_sem]; with_reducible rfl))) | (with_reducible refine wZ hTT (cfMe_ok hk) noM_ok ?_) | (with_reducible refine wa ?_; refine And.intro ?_ ?_; (focus kernel_rfl)))
      exact ⟨rfl, rfl, _, rfl, rfl⟩
  rw [if_pos hff] at hP1
  rw [if_pos ⟨hff.2, hff.1⟩] at hP2
  rw [hff.1] at hFa
  rw [hff.2] at hFb
  obtain ⟨hsym, _⟩ := met_sym (g := g) hf h5 hff.1 h6 hff.2
  rw [← hsym] at hP2
  cases hK : hasK (awayG s ls g b) a
  · rw [if_neg (by rw [hK]; simp)] at hP1
    rw [if_neg (by rw [hK]; simp)] at hP2
    have hgo : goesG s ls g a b o = false := by
      rw [Bool.eq_false_iff]
      intro h
      have := (met_way hf h6 hff.2 (way_back h5 hff.1 (goes_way h))).1
      rw [hK] at this
      cases this
    repeat (first | (with_reducible (first | apply wA | apply wB | apply wC | apply wD | apply wE | apply wF | apply wG | apply wH | apply wI | apply wJ | apply wK | apply wL | apply wM | apply wN | apply wO | apply wP | apply wQ rfl | apply wR | apply wS | apply wT | apply wU)) | ((with_reducible (first | apply wV | apply wW | apply wX | (apply wY [] hTT (cfMe_ok hk) noM_ok mixed; (focus kernel_rfl)))); (focus (simp only [Tryz.f19, cfMe, c42, c70, c72, c29, hd, hd2, hd3, hd4, hd5, hP1, hP2, hFa, hFb, hf, hg, h5, ho5, hgo, n00, n55, e57, e55, n50, bff, and_self, if_true, go_sem]; with_reducible rfl))) | (with_reducible refine wZ hTT (cfMe_ok hk) noM_ok ?_) | (with_reducible refine wa ?_; refine And.intro ?_ ?_; (focus kernel_rfl)))
    exact ⟨rfl, rfl, _, rfl, rfl⟩
  have W := way_ok hf h5 hff.1 h6 hff.2 hK
  rw [if_pos hK] at hP1 hP2
  generalize pathL s ls g (awayG s ls g b) (dG (awayG s ls g b) a).toNat a = P at hP1 W
  generalize pathL s ls g (awayG s ls g a) (dG (awayG s ls g a) b).toNat b = B at hP2 W
  obtain ⟨y1, w1, k1⟩ := trsP_z P
  obtain ⟨y2, w2, k2⟩ := trsP_z B
  rw [w1] at hP1
  rw [w2] at hP2
  have hdP := decTs1_enc k1
  have hdB := decTs1_enc k2
  have hle := W.le
  have hP5 : P.length ≤ 100000 := by omega
  have hB5 : B.length ≤ 100000 := by rw [W.same]; omega
  have hP20 : ¬ (2000 : Int) < P.length := by omega
  have hBP : ((B.length : Int) != (P.length : Int)) = false := by rw [W.same]; exact bne_self_eq_false _
  have hgP := W.go
  have hgB := W.back
  repeat (first | (with_reducible (first | apply wA | ((fail_if_success (refine RunQ.seq (x := .region 16 _ _) ?_)); (apply wB)) | apply wC | apply wD | apply wE | apply wF | apply wG | apply wH | apply wI | apply wJ | apply wK | apply wL | apply wM | apply wN | apply wO | apply wP | apply wQ rfl | apply wR | apply wS | apply wT | apply wU)) | ((with_reducible (first | apply wV | apply wW | apply wX | (apply wY [] hTT (cfMe_ok hk) noM_ok mixed; (focus kernel_rfl)))); (focus (simp only [Tryz.f19, cfMe, c42, c70, c72, c29, hd, hd2, hd3, hd4, hd5, hdP, hdB, hP1, hP2, hFa, hFb, hf, hg, h5, h6, ho5, hP5, hB5, hP20, hBP, hgP, hgB, n00, e07, bff, and_self, if_true, gt_iff_lt, List.length_map, go_sem]; with_reducible rfl))) | ((fail_if_success (with_reducible show RunQ _ (.region 16 _ _) _ _)); (with_reducible refine wZ hTT (cfMe_ok hk) noM_ok ?_)) | (with_reducible refine wa ?_; refine And.intro ?_ ?_; (focus kernel_rfl)))
  refine RunQ.keep [19, 11, 4] (by simp only [go_sem]; rfl) ?_
  cases hgo : goesG s ls g a b o
  · repeat (first | (with_reducible (first | apply wA | apply wB | apply wC | apply wD | apply wE | apply wF | apply wG | apply wH | apply wI | apply wJ | apply wK | apply wL | apply wM | apply wN | apply wO | apply wP | apply wQ rfl | apply wR | apply wS | apply wT | apply wU)) | ((with_reducible (first | apply wV | apply wW | apply wX | (apply wY [] hTT (cfMe_ok hk) noM_ok mixed; (focus kernel_rfl)))); (focus (simp only [Tryz.f19, cfMe, c29, go_sem]; with_reducible rfl))) | (with_reducible refine wZ hTT (cfMe_ok hk) noM_ok ?_) | (with_reducible refine wa ?_; refine And.intro ?_ ?_; (focus kernel_rfl)))
    exact ⟨rfl, rfl, _, rfl, rfl⟩
  obtain ⟨m1, m2⟩ := W.min o hgo
  by_cases hlt : P.length < o.length
  · have hlt' : (P.length : Int) < o.length := by omega
    repeat (first | (with_reducible (first | apply wA | apply wB | apply wC | apply wD | apply wE | apply wF | apply wG | apply wH | apply wI | apply wJ | apply wK | apply wL | apply wM | apply wN | apply wO | apply wP | apply wQ rfl | apply wR | apply wS | apply wT | apply wU)) | ((with_reducible (first | apply wV | apply wW | apply wX | (apply wY [] hTT (cfMe_ok hk) noM_ok mixed; (focus kernel_rfl)))); (focus (simp only [Tryz.f19, cfMe, c29, hlt', gt_iff_lt, List.length_map, go_sem]; with_reducible rfl))) | (with_reducible refine wZ hTT (cfMe_ok hk) noM_ok ?_) | (with_reducible refine wa ?_; refine And.intro ?_ ?_; (focus kernel_rfl)))
    exact ⟨rfl, rfl, _, rfl, rfl⟩
  have hlt' : ¬ (P.length : Int) < o.length := by omega
  have heq : o.length = P.length := by omega
  have heq' : ((o.length : Int) == (P.length : Int)) = true := by rw [heq]; exact beq_self_eq_true _
  have hso := m2 heq
  repeat (first | (with_reducible (first | apply wA | apply wB | apply wC | apply wD | apply wE | apply wF | apply wG | apply wH | apply wI | apply wJ | apply wK | apply wL | apply wM | apply wN | apply wO | apply wP | apply wQ rfl | apply wR | apply wS | apply wT | apply wU)) | ((with_reducible (first | apply wV | apply wW | apply wX | (apply wY [] hTT (cfMe_ok hk) noM_ok mixed; (focus kernel_rfl)))); (focus (simp only [Tryz.f19, cfMe, c29, c73, hd5, hdP, hom, hlt', heq', hso, gt_iff_lt, List.length_map, go_sem]; with_reducible rfl))) | (with_reducible refine wZ hTT (cfMe_ok hk) noM_ok ?_) | (with_reducible refine wa ?_; refine And.intro ?_ ?_; (focus kernel_rfl)))
  exact ⟨rfl, rfl, _, rfl, rfl⟩
end Go.Pv
