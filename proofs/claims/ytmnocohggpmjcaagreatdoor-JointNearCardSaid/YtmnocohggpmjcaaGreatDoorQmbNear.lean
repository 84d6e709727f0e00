/- The law JointNear: its function returns true, whatever it is given. -/
import Derived.Test.YtmnocohggpmjcaaGreatDoorQmaWalk
import Derived.Test.YtmnocohggpmjcaaGreatDoorQmbAim
import Derived.Test.YtmnocohggpmjcaaGreatDoorQtA
set_option linter.all false
namespace Go.Pv
open Go Go.RowKit Go.Proofs
set_option maxRecDepth 200000
set_option maxHeartbeats 8000000
/-- What Path returns between fine poses. -/
theorem pathR_fine {s : Int} {ls : List Lb} {g : Stg} {a b : List Int} (hf : figB s ls = true) (hg : stgG ls g = true) (ha : poseG ls a = true) (hb : poseG ls b = true) (hfa : finG s ls g a = true) (hfb : finG s ls g b = true) :
    (hasK (awayG s ls g a) b = false ∧ pathR s ls g a b = .tuple [.sl .n [], ii 5]) ∨
    (hasK (awayG s ls g a) b = true ∧ ∃ (z : Z) (P : List (Int × Int)), zOk z (P.map encT) = true ∧ pathR s ls g a b = .tuple [.sl z (P.map encT), ii 0] ∧ (P.length : Int) = dG (awayG s ls g a) b) := by
  obtain ⟨e1, e2⟩ := met_sym (g := g) hf ha hfa hb hfb
  have hP : pathR s ls g a b = if hasK (awayG s ls g b) a = true then .tuple [trsP (pathL s ls g (awayG s ls g b) (dG (awayG s ls g b) a).toNat a), ii 0] else .tuple [.sl .n [], ii 5] := by
    unfold pathR; rw [if_pos ⟨hf, hg, ha, hb⟩, if_pos ⟨hfa, hfb⟩]
  cases hk : hasK (awayG s ls g b) a
  · rw [hk, if_neg (by simp)] at hP
    exact .inl ⟨by rw [← e1]; exact hk, hP⟩
  · rw [hk, if_pos rfl] at hP
    have H := away_srch (g := g) hf hb hfb
    have hbd := (dG_bd (s := s) (ls := ls) (g := g) (f := b) a).1
    have l1 := path_len H (dG (awayG s ls g b) a).toNat a hk (by omega)
    have hd := e2 hk
    generalize pathL s ls g (awayG s ls g b) (dG (awayG s ls g b) a).toNat a = P at hP l1
    obtain ⟨z, w1, k1⟩ := trsP_z P
    rw [w1] at hP
    exact .inr ⟨by rw [← e1]; exact hk, z, P, k1, hP, by omega⟩
def cfMi : CallF := cfAdd (cfAdd (cfAdd (cfAdd (cfAdd (cfAdd (cfAdd (cfAdd (cfAdd cf0 43 c43) 27 c86) 28 c88) 29 c29) 30 c30) 47 c47) 42 c42) 70 c70) 66 c66
theorem cfMi_ok (hk : ConOk Tryz.prog 29 c29) : CallFOk Tryz.prog cfMi := cfAdd_ok (cfAdd_ok (cfAdd_ok (cfAdd_ok (cfAdd_ok (cfAdd_ok (cfAdd_ok (cfAdd_ok (cfAdd_ok cf0_ok c43_ok) c27_ok) c28_ok) hk) c30_ok) c47_ok) c42_ok) c70_ok) c66_ok
theorem near_20 (hk : ConOk Tryz.prog 29 c29) (s : Int) (z zh zr za zo : Z) (ls : List Lb) (g : Stg) (a o : List Int) (n : Int) (hzo : zOk z (ls.map encLb) = true) (hh : zOk zh (g.hs.map encFld) = true) (hr : zOk zr (g.rs.map ii) = true) (ha : zOk za (a.map ii) = true) (ho : zOk zo (o.map ii) = true) :
    CallOk Tryz.prog 20 [.agg [ii s, .sl z (ls.map encLb)], encStg zh zr g, .sl za (a.map ii), ii n, .sl zo (o.map ii)] [] (.ret (.bool true)) [] := by
  refine CallOk.of0 hTT Tryz.func20 rfl rfl ?_
  have hd := decFig_enc s z ls hzo
  have hd2 := decStg_enc hh hr
  have hd3 := decIs1_enc ha
  have hd4 := decIs1_enc ho
  unfold encStg at hd2 ⊢
  cases h1 : rightG s ls g
  · repeat (first | (with_reducible (first | apply wA | apply wB | apply wC | apply wD | apply wE | apply wF | apply wG | apply wH | apply wI | apply wJ | apply wK | apply wL | apply wM | apply wN | apply wO | apply wP | apply wQ rfl | apply wR | apply wS | apply wT | apply wU)) | ((with_reducible (first | apply wV | apply wW | apply wX | (apply wY [] hTT (cfMi_ok hk) noM_ok mixed; (focus kernel_rfl)))); (focus (simp only [Tryz.f20, cfMi, c43, c29, hd, hd2, h1, go_sem]; with_reducible rfl))) | (with_reducible refine wZ hTT (cfMi_ok hk) noM_ok ?_) | (with_reducible refine wa ?_; refine And.intro ?_ ?_; (focus kernel_rfl)))
    exact ⟨rfl, rfl, _, rfl, rfl⟩
  by_cases h2 : (8 : Int) < a.length
  · repeat (first | (with_reducible (first | apply wA | apply wB | apply wC | apply wD | apply wE | apply wF | apply wG | apply wH | apply wI | apply wJ | apply wK | apply wL | apply wM | apply wN | apply wO | apply wP | apply wQ rfl | apply wR | apply wS | apply wT | apply wU)) | ((with_reducible (first | apply wV | apply wW | apply wX | (apply wY [] hTT (cfMi_ok hk) noM_ok mixed; (focus kernel_rfl)))); (focus (simp only [Tryz.f20, cfMi, c43, c29, hd, hd2, h1, h2, gt_iff_lt, go_sem]; with_reducible rfl))) | (with_reducible refine wZ hTT (cfMi_ok hk) noM_ok ?_) | (with_reducible refine wa ?_; refine And.intro ?_ ?_; (focus kernel_rfl)))
    exact ⟨rfl, rfl, _, rfl, rfl⟩
  by_cases h3 : (8 : Int) < o.length
  · repeat (first | (with_reducible (first | apply wA | apply wB | apply wC | apply wD | apply wE | apply wF | apply wG | apply wH | apply wI | apply wJ | apply wK | apply wL | apply wM | apply wN | apply wO | apply wP | apply wQ rfl | apply wR | apply wS | apply wT | apply wU)) | ((with_reducible (first | apply wV | apply wW | apply wX | (apply wY [] hTT (cfMi_ok hk) noM_ok mixed; (focus kernel_rfl)))); (focus (simp only [Tryz.f20, cfMi, c43, c29, hd, hd2, h1, h2, h3, gt_iff_lt, go_sem]; with_reducible rfl))) | (with_reducible refine wZ hTT (cfMi_ok hk) noM_ok ?_) | (with_reducible refine wa ?_; refine And.intro ?_ ?_; (focus kernel_rfl)))
    exact ⟨rfl, rfl, _, rfl, rfl⟩
  have hrr : figB s ls = true ∧ stgG ls g = true := by
    unfold rightG at h1
    simp only [Bool.and_eq_true] at h1
    exact ⟨h1.1.2, h1.2⟩
  have hf := hrr.1
  have hg := hrr.2
  have hl := fig_len hf
  have hs : ls.length ≤ maxLen := by unfold maxLen; omega
  have hs2 : ls.length ≤ 1000 := by omega
  cases h5 : poseG ls a
  · repeat (first | (with_reducible (first | apply wA | apply wB | apply wC | apply wD | apply wE | apply wF | apply wG | apply wH | apply wI | apply wJ | apply wK | apply wL | apply wM | apply wN | apply wO | apply wP | apply wQ rfl | apply wR | apply wS | apply wT | apply wU)) | ((with_reducible (first | apply wV | apply wW | apply wX | (apply wY [] hTT (cfMi_ok hk) noM_ok mixed; (focus kernel_rfl)))); (focus (simp only [Tryz.f20, cfMi, c43, c29, c86, hd, hd2, hd3, hs2, h1, h2, h3, h5, gt_iff_lt, go_sem]; with_reducible rfl))) | (with_reducible refine wZ hTT (cfMi_ok hk) noM_ok ?_) | (with_reducible refine wa ?_; refine And.intro ?_ ?_; (focus kernel_rfl)))
    exact ⟨rfl, rfl, _, rfl, rfl⟩
  cases h6 : limbG ls n
  · repeat (first | (with_reducible (first | apply wA | apply wB | apply wC | apply wD | apply wE | apply wF | apply wG | apply wH | apply wI | apply wJ | apply wK | apply wL | apply wM | apply wN | apply wO | apply wP | apply wQ rfl | apply wR | apply wS | apply wT | apply wU)) | ((with_reducible (first | apply wV | apply wW | apply wX | (apply wY [] hTT (cfMi_ok hk) noM_ok mixed; (focus kernel_rfl)))); (focus (simp only [Tryz.f20, cfMi, c43, c29, c86, c88, hd, hd2, hd3, hs, hs2, h1, h2, h3, h5, h6, gt_iff_lt, go_sem]; with_reducible rfl))) | (with_reducible refine wZ hTT (cfMi_ok hk) noM_ok ?_) | (with_reducible refine wa ?_; refine And.intro ?_ ?_; (focus kernel_rfl)))
    exact ⟨rfl, rfl, _, rfl, rfl⟩
  cases h7 : poseG ls o
  · repeat (first | (with_reducible (first | apply wA | apply wB | apply wC | apply wD | apply wE | apply wF | apply wG | apply wH | apply wI | apply wJ | apply wK | apply wL | apply wM | apply wN | apply wO | apply wP | apply wQ rfl | apply wR | apply wS | apply wT | apply wU)) | ((with_reducible (first | apply wV | apply wW | apply wX | (apply wY [] hTT (cfMi_ok hk) noM_ok mixed; (focus kernel_rfl)))); (focus (simp only [Tryz.f20, cfMi, c43, c29, c86, c88, hd, hd2, hd3, hd4, hs, hs2, h1, h2, h3, h5, h6, h7, gt_iff_lt, go_sem]; with_reducible rfl))) | (with_reducible refine wZ hTT (cfMi_ok hk) noM_ok ?_) | (with_reducible refine wa ?_; refine And.intro ?_ ?_; (focus kernel_rfl)))
    exact ⟨rfl, rfl, _, rfl, rfl⟩
  have hne : ls ≠ [] := fun e => by rw [e] at hl; simp at hl
  have hz : z ≠ .n := fun e => hne (zOk_map hzo e)
  have hli := limb_in h6
  have h0l := hli.1
  have h1l := hli.2
  have hE : ∀ l, poseG ls l = true → endsR s ls l = .tuple [.sl .a ((ends s ls l).map encPl), ii 0] := fun l h => by unfold endsR; rw [hf, h]; rfl
  have hEo := hE o h7
  have hel : ∀ l, poseG ls l = true → (ends s ls l).length = ls.length := fun l h => ends_ln hf h
  have helo := hel o h7
  have hge : ∀ l, poseG ls l = true → ((ends s ls l).map encPl)[n.toNat]? = some (.agg [ii (endG1 s ls n l).1, ii (endG1 s ls n l).2]) := fun l h => by rw [List.getElem?_map, ends_get (s := s) hf h hli]; rfl
  have hgo := hge o h7
  have hFa : fineR s ls g a = .tuple [.bool (finG s ls g a), ii 0] := by unfold fineR; rw [if_pos ⟨hf, hg, h5⟩]
  have hFo : fineR s ls g o = .tuple [.bool (finG s ls g o), ii 0] := by unfold fineR; rw [if_pos ⟨hf, hg, h7⟩]
  have n00 : ((0 : Int) != 0) = false := rfl
  have e00 : ((0 : Int) == 0) = true := rfl
  have e77 : ((7 : Int) == 7) = true := rfl
  have e57 : ((5 : Int) == 7) = false := rfl
  have e07 : ((0 : Int) == 7) = false := rfl
  have e55 : ((5 : Int) == 5) = true := rfl
  have n50 : ((5 : Int) != 0) = true := rfl
  have n55 : ((5 : Int) != 5) = false := rfl
  have bqt : (true == true) = true := rfl
  have bqf : (false == false) = true := rfl
  have hnl : ∀ k : Nat, k = ls.length → ((k : Int) != (ls.length : Int)) = false := fun k h => by rw [h]; exact bne_self_eq_false _
  have hno := hnl _ helo
  obtain ⟨p, hp⟩ : ∃ p, endG1 s ls n o = p := ⟨_, rfl⟩
  have hdp : decPl (.agg [ii p.1, ii p.2]) = some p := rfl
  rw [hp] at hgo
  repeat (first | (with_reducible (first | apply wA | ((fail_if_success (refine RunQ.seq (x := .region 3 _ _) ?_)); (apply wB)) | apply wC | apply wD | apply wE | apply wF | apply wG | apply wH | apply wI | apply wJ | apply wK | apply wL | apply wM | apply wN | apply wO | apply wP | apply wQ rfl | apply wR | apply wS | apply wT | apply wU)) | ((with_reducible (first | apply wV | apply wW | apply wX | (apply wY [] hTT (cfMi_ok hk) noM_ok mixed; (focus kernel_rfl)))); (focus (simp only [Tryz.f20, cfMi, c43, c29, c86, c88, hd, hd2, hd3, hd4, hs, hs2, h1, h2, h3, h5, h6, h7, gt_iff_lt, go_sem]; with_reducible rfl))) | ((fail_if_success (with_reducible show RunQ _ (.region 3 _ _) _ _)); (with_reducible refine wZ hTT (cfMi_ok hk) noM_ok ?_)) | (with_reducible refine wa ?_; refine And.intro ?_ ?_; (focus kernel_rfl)))
  refine RunQ.keep [6, 5, 2, 3, 4] (by simp only [go_sem]; rfl) ?_
  repeat (first | (with_reducible (first | apply wA | ((fail_if_success (refine RunQ.seq (x := .region 6 _ _) ?_)); (apply wB)) | apply wC | apply wD | apply wE | apply wF | apply wG | apply wH | apply wI | apply wJ | apply wK | apply wL | apply wM | apply wN | apply wO | apply wP | apply wQ rfl | apply wR | apply wS | apply wT | apply wU)) | ((with_reducible (first | apply wV | apply wW | apply wX | (apply wY [] hTT (cfMi_ok hk) noM_ok mixed; (focus kernel_rfl)))); (focus (simp only [Tryz.f20, cfMi, c30, hd, hd4, hEo, hno, hz, n00, List.length_map, go_sem]; with_reducible rfl))) | ((fail_if_success (with_reducible show RunQ _ (.region 6 _ _) _ _)); (with_reducible refine wZ hTT (cfMi_ok hk) noM_ok ?_)) | (with_reducible refine wa ?_; refine And.intro ?_ ?_; (focus kernel_rfl)))
  refine RunQ.keep [11, 6, 5, 2, 3, 4] (by simp only [go_sem]; rfl) ?_
  have hA : aimR s ls g a n p = if finG s ls g a = true then aimV (aimG s ls g a n p)
    else .tuple [.sl .n [], ii 0, ii 7] := by unfold aimR; rw [if_pos ⟨hf, hg, h5, h6⟩]
  have hPo : pathR s ls g a o = if finG s ls g a = true ∧ finG s ls g o = true then
      if hasK (awayG s ls g o) a = true then .tuple [trsP (pathL s ls g (awayG s ls g o) (dG (awayG s ls g o) a).toNat a), ii 0] else .tuple [.sl .n [], ii 5]
    else .tuple [.sl .n [], ii 7] := by unfold pathR; rw [if_pos ⟨hf, hg, h5, h7⟩]
  cases ga : finG s ls g a
  · rw [ga, if_neg (by simp)] at hA
    rw [ga, if_neg (by simp)] at hPo
    rw [ga] at hFa
    repeat (first | (with_reducible (first | apply wA | apply wB | apply wC | apply wD | apply wE | apply wF | apply wG | apply wH | apply wI | apply wJ | apply wK | apply wL | apply wM | apply wN | apply wO | apply wP | apply wQ rfl | apply wR | apply wS | apply wT | apply wU)) | ((with_reducible (first | apply wV | apply wW | apply wX | (apply wY [] hTT (cfMi_ok hk) noM_ok mixed; (focus kernel_rfl)))); (focus (simp only [Tryz.f20, cfMi, c47, c42, c70, c29, closedL_lbs, closedL_flds, closedL_is, hd, hd2, hd3, hd4, hdp, hgo, helo, h0l, h1l, hA, hPo, hFa, hFo, e77, e00, bqt, List.length_map, go_sem]; with_reducible rfl))) | (with_reducible refine wZ hTT (cfMi_ok hk) noM_ok ?_) | (with_reducible refine wa ?_; refine And.intro ?_ ?_; (focus kernel_rfl)))
    exact ⟨rfl, rfl, _, rfl, rfl⟩
  rw [ga, if_pos rfl] at hA
  rw [ga] at hFa
  cases go : finG s ls g o
  · rw [if_neg (by rw [go]; simp)] at hPo
    rw [go] at hFo
    cases hG : aimG s ls g a n p with
    | none =>
      rw [hG] at hA
      have hA : aimR s ls g a n p = .tuple [.sl .n [], ii 0, ii 5] := hA
      repeat (first | (with_reducible (first | apply wA | apply wB | apply wC | apply wD | apply wE | apply wF | apply wG | apply wH | apply wI | apply wJ | apply wK | apply wL | apply wM | apply wN | apply wO | apply wP | apply wQ rfl | apply wR | apply wS | apply wT | apply wU)) | ((with_reducible (first | apply wV | apply wW | apply wX | (apply wY [] hTT (cfMi_ok hk) noM_ok mixed; (focus kernel_rfl)))); (focus (simp only [Tryz.f20, cfMi, c47, c42, c70, c29, closedL_lbs, closedL_flds, closedL_is, hd, hd2, hd3, hd4, hdp, hgo, helo, h0l, h1l, hA, hPo, hFa, hFo, e77, e57, e00, bqt, bqf, List.length_map, go_sem]; with_reducible rfl))) | (with_reducible refine wZ hTT (cfMi_ok hk) noM_ok ?_) | (with_reducible refine wa ?_; refine And.intro ?_ ?_; (focus kernel_rfl)))
      exact ⟨rfl, rfl, _, rfl, rfl⟩
    | some x =>
      rw [hG] at hA
      have hA : aimR s ls g a n p = .tuple [pvA x.1, ii x.2, ii 0] := hA
      repeat (first | (with_reducible (first | apply wA | apply wB | apply wC | apply wD | apply wE | apply wF | apply wG | apply wH | apply wI | apply wJ | apply wK | apply wL | apply wM | apply wN | apply wO | apply wP | apply wQ rfl | apply wR | apply wS | apply wT | apply wU)) | ((with_reducible (first | apply wV | apply wW | apply wX | (apply wY [] hTT (cfMi_ok hk) noM_ok mixed; (focus kernel_rfl)))); (focus (simp only [Tryz.f20, cfMi, c47, c42, c70, c29, closedL_lbs, closedL_flds, closedL_is, hd, hd2, hd3, hd4, hdp, hgo, helo, h0l, h1l, hA, hPo, hFa, hFo, e77, e07, e00, bqt, bqf, List.length_map, go_sem]; with_reducible rfl))) | (with_reducible refine wZ hTT (cfMi_ok hk) noM_ok ?_) | (with_reducible refine wa ?_; refine And.intro ?_ ?_; (focus kernel_rfl)))
      exact ⟨rfl, rfl, _, rfl, rfl⟩
  have hPP := pathR_fine (g := g) hf hg h5 h7 ga go
  clear hPo
  cases hG : aimG s ls g a n p with
  | none =>
    rw [hG] at hA
    have hA : aimR s ls g a n p = .tuple [.sl .n [], ii 0, ii 5] := hA
    have hno2 := aim_none hG h7 hp
    rcases hPP with ⟨_, hPo⟩ | ⟨hK, _⟩
    case inr => rw [hno2] at hK; cases hK
    repeat (first | (with_reducible (first | apply wA | apply wB | apply wC | apply wD | apply wE | apply wF | apply wG | apply wH | apply wI | apply wJ | apply wK | apply wL | apply wM | apply wN | apply wO | apply wP | apply wQ rfl | apply wR | apply wS | apply wT | apply wU)) | ((with_reducible (first | apply wV | apply wW | apply wX | (apply wY [] hTT (cfMi_ok hk) noM_ok mixed; (focus kernel_rfl)))); (focus (simp only [Tryz.f20, cfMi, c47, c42, c29, closedL_lbs, closedL_flds, closedL_is, hd, hd2, hd3, hd4, hdp, hgo, helo, h0l, h1l, hA, hPo, e57, e55, n50, List.length_map, go_sem]; with_reducible rfl))) | (with_reducible refine wZ hTT (cfMi_ok hk) noM_ok ?_) | (with_reducible refine wa ?_; refine And.intro ?_ ?_; (focus kernel_rfl)))
    exact ⟨rfl, rfl, _, rfl, rfl⟩
  | some x =>
    rw [hG] at hA
    have hA : aimR s ls g a n p = .tuple [pvA x.1, ii x.2, ii 0] := hA
    obtain ⟨x1, x2, x3, x4, x5⟩ := aim_some hG
    obtain ⟨_, fx⟩ := met_fine hf h5 ga x2
    have hdx : decIs1 (.sl .a (x.1.map ii)) = some x.1 := decIs1_enc (by cases x.1 <;> rfl)
    have hEx := hE x.1 x1
    have helx := hel x.1 x1
    have hgx := hge x.1 x1
    rw [x3] at hgx
    have hnx := hnl _ helx
    have hxo : (((ends s ls x.1).length : Int) != ((ends s ls o).length : Int)) = false := by rw [helx, helo]; exact bne_self_eq_false _
    have hpp : (p.1 == p.1 && p.2 == p.2) = true := by simp
    have hPx := pathR_fine (g := g) hf hg h5 x1 ga fx
    rcases hPx with ⟨hK, _⟩ | ⟨_, zx, P, kx, hPx, lx⟩
    · rw [x2] at hK; cases hK
    have hlx : ((P.length : Int) != x.2) = false := by rw [lx, x4]; exact bne_self_eq_false _
    rcases hPP with ⟨_, hPo⟩ | ⟨hK, zw, W, kw, hPo, lw⟩
    · repeat (first | (with_reducible (first | apply wA | ((fail_if_success (refine RunQ.seq (x := .region 16 _ _) ?_)); (apply wB)) | apply wC | apply wD | apply wE | apply wF | apply wG | apply wH | apply wI | apply wJ | apply wK | apply wL | apply wM | apply wN | apply wO | apply wP | apply wQ rfl | apply wR | apply wS | apply wT | apply wU)) | ((with_reducible (first | apply wV | apply wW | apply wX | (apply wY [] hTT (cfMi_ok hk) noM_ok mixed; (focus kernel_rfl)))); (focus (simp only [Tryz.f20, cfMi, c47, c42, c86, c29, closedL_lbs, closedL_flds, closedL_is, hd, hd2, hd3, hd4, hdp, hdx, hgo, helo, h0l, h1l, hs2, x1, hA, hPo, e07, e57, n00, n50, n55, List.length_map, go_sem]; with_reducible rfl))) | ((fail_if_success (with_reducible show RunQ _ (.region 16 _ _) _ _)); (with_reducible refine wZ hTT (cfMi_ok hk) noM_ok ?_)) | (with_reducible refine wa ?_; refine And.intro ?_ ?_; (focus kernel_rfl)))
      repeat (first | (with_reducible (first | apply wA | apply wB | apply wC | apply wD | apply wE | apply wF | apply wG | apply wH | apply wI | apply wJ | apply wK | apply wL | apply wM | apply wN | apply wO | apply wP | apply wQ rfl | apply wR | apply wS | apply wT | apply wU)) | ((with_reducible (first | apply wV | apply wW | apply wX | (apply wY [] hTT (cfMi_ok hk) noM_ok mixed; (focus kernel_rfl)))); (focus (simp only [Tryz.f20, cfMi, c30, c42, c29, hd, hd2, hd3, hd4, hdp, hdx, hEx, helx, helo, hgx, hgo, hxo, hpp, hPx, hlx, h0l, h1l, n00, n50, List.length_map, go_sem]; with_reducible rfl))) | (with_reducible refine wZ hTT (cfMi_ok hk) noM_ok ?_) | (with_reducible refine wa ?_; refine And.intro ?_ ?_; (focus kernel_rfl)))
      exact ⟨rfl, rfl, _, rfl, rfl⟩
    obtain ⟨m1, m2⟩ := x5 o h7 hp hK
    repeat (first | (with_reducible (first | apply wA | ((fail_if_success (refine RunQ.seq (x := .region 16 _ _) ?_)); (apply wB)) | apply wC | apply wD | apply wE | apply wF | apply wG | apply wH | apply wI | apply wJ | apply wK | apply wL | apply wM | apply wN | apply wO | apply wP | apply wQ rfl | apply wR | apply wS | apply wT | apply wU)) | ((with_reducible (first | apply wV | apply wW | apply wX | (apply wY [] hTT (cfMi_ok hk) noM_ok mixed; (focus kernel_rfl)))); (focus (simp only [Tryz.f20, cfMi, c47, c42, c86, c29, closedL_lbs, closedL_flds, closedL_is, hd, hd2, hd3, hd4, hdp, hdx, hgo, helo, h0l, h1l, hs2, x1, hA, hPo, e07, n00, List.length_map, go_sem]; with_reducible rfl))) | ((fail_if_success (with_reducible show RunQ _ (.region 16 _ _) _ _)); (with_reducible refine wZ hTT (cfMi_ok hk) noM_ok ?_)) | (with_reducible refine wa ?_; refine And.intro ?_ ?_; (focus kernel_rfl)))
    repeat (first | (with_reducible (first | apply wA | ((fail_if_success (refine RunQ.seq (x := .region 20 _ _) ?_)); (apply wB)) | apply wC | apply wD | apply wE | apply wF | apply wG | apply wH | apply wI | apply wJ | apply wK | apply wL | apply wM | apply wN | apply wO | apply wP | apply wQ rfl | apply wR | apply wS | apply wT | apply wU)) | ((with_reducible (first | apply wV | apply wW | apply wX | (apply wY [] hTT (cfMi_ok hk) noM_ok mixed; (focus kernel_rfl)))); (focus (simp only [Tryz.f20, cfMi, c30, c42, c29, hd, hd2, hd3, hd4, hdp, hdx, hEx, helx, helo, hgx, hgo, hxo, hpp, hPx, hlx, h0l, h1l, n00, List.length_map, go_sem]; with_reducible rfl))) | ((fail_if_success (with_reducible show RunQ _ (.region 20 _ _) _ _)); (with_reducible refine wZ hTT (cfMi_ok hk) noM_ok ?_)) | (with_reducible refine wa ?_; refine And.intro ?_ ?_; (focus kernel_rfl)))
    refine RunQ.keep [17, 16, 14, 13, 4] (by simp only [go_sem]; rfl) ?_
    by_cases hlt : x.2 < W.length
    · repeat (first | (with_reducible (first | apply wA | apply wB | apply wC | apply wD | apply wE | apply wF | apply wG | apply wH | apply wI | apply wJ | apply wK | apply wL | apply wM | apply wN | apply wO | apply wP | apply wQ rfl | apply wR | apply wS | apply wT | apply wU)) | ((with_reducible (first | apply wV | apply wW | apply wX | (apply wY [] hTT (cfMi_ok hk) noM_ok mixed; (focus kernel_rfl)))); (focus (simp only [Tryz.f20, cfMi, c29, hlt, n00, gt_iff_lt, List.length_map, go_sem]; with_reducible rfl))) | (with_reducible refine wZ hTT (cfMi_ok hk) noM_ok ?_) | (with_reducible refine wa ?_; refine And.intro ?_ ?_; (focus kernel_rfl)))
      exact ⟨rfl, rfl, _, rfl, rfl⟩
    have heq : ((W.length : Int) == x.2) = true := by simp; omega
    have hbf := m2 (by omega)
    have hol : o.length ≤ maxLen := by rw [(pose_at h7).1]; exact hs
    repeat (first | (with_reducible (first | apply wA | apply wB | apply wC | apply wD | apply wE | apply wF | apply wG | apply wH | apply wI | apply wJ | apply wK | apply wL | apply wM | apply wN | apply wO | apply wP | apply wQ rfl | apply wR | apply wS | apply wT | apply wU)) | ((with_reducible (first | apply wV | apply wW | apply wX | (apply wY [] hTT (cfMi_ok hk) noM_ok mixed; (focus kernel_rfl)))); (focus (simp only [Tryz.f20, cfMi, c66, c29, hd4, hdx, hol, hlt, heq, hbf, n00, gt_iff_lt, List.length_map, go_sem]; with_reducible rfl))) | (with_reducible refine wZ hTT (cfMi_ok hk) noM_ok ?_) | (with_reducible refine wa ?_; refine And.intro ?_ ?_; (focus kernel_rfl)))
    exact ⟨rfl, rfl, _, rfl, rfl⟩
end Go.Pv
