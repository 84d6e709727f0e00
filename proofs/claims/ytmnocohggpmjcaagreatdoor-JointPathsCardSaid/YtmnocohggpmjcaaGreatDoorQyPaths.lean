/- The law JointPaths: its function returns true, whatever it is given. -/
import Derived.Test.YtmnocohggpmjcaaGreatDoorQyRPath
import Derived.Test.YtmnocohggpmjcaaGreatDoorQgEnds
set_option linter.all false
namespace Go.Pv
open Go Go.RowKit Go.Proofs
set_option maxRecDepth 200000
set_option maxHeartbeats 4000000
def cfYg : CallF := cfAdd (cfAdd (cfAdd (cfAdd (cfAdd (cfAdd (cfAdd (cfAdd cf0 41 c41) 43 c43) 27 c86) 29 c29) 42 c42) 45 c45) 44 c44) 46 c46
theorem cfYg_ok (hk : ConOk Tryz.prog 29 c29) : CallFOk Tryz.prog cfYg := cfAdd_ok (cfAdd_ok (cfAdd_ok (cfAdd_ok (cfAdd_ok (cfAdd_ok (cfAdd_ok (cfAdd_ok cf0_ok c41_ok) c43_ok) c27_ok) hk) c42_ok) c45_ok) c44_ok) c46_ok
theorem paths_7 (hk : ConOk Tryz.prog 29 c29) (s : Int) (z zh zr za zb : Z) (ls : List Lb) (g : Stg) (a b : List Int) (hzo : zOk z (ls.map encLb) = true) (hh : zOk zh (g.hs.map encFld) = true) (hr : zOk zr (g.rs.map ii) = true) (ha : zOk za (a.map ii) = true) (hb : zOk zb (b.map ii) = true) :
    CallOk Tryz.prog 7 [.agg [ii s, .sl z (ls.map encLb)], encStg zh zr g, .sl za (a.map ii), .sl zb (b.map ii)] [] (.ret (.bool true)) [] := by
  refine CallOk.of0 hTT Tryz.func7 rfl rfl ?_
  have hd := decFig_enc s z ls hzo
  have hd2 := decStg_enc hh hr
  have hd3 := decIs1_enc ha
  have hd4 := decIs1_enc hb
  unfold encStg at hd2 ⊢
  cases h0 : stagedG ls g
  · repeat (first | (with_reducible (first | apply wA | apply wB | apply wC | apply wD | apply wE | apply wF | apply wG | apply wH | apply wI | apply wJ | apply wK | apply wL | apply wM | apply wN | apply wO | apply wP | apply wQ rfl | apply wR | apply wS | apply wT | apply wU)) | ((with_reducible (first | apply wV | apply wW | apply wX | (apply wY [] hTT (cfYg_ok hk) noM_ok mixed; (focus kernel_rfl)))); (focus (simp only [Tryz.f7, cfYg, c41, c29, hd, hd2, h0, go_sem]; with_reducible rfl))) | (with_reducible refine wZ hTT (cfYg_ok hk) noM_ok ?_) | (with_reducible refine wa ?_; refine And.intro ?_ ?_; (focus kernel_rfl)))
    exact ⟨rfl, rfl, _, rfl, rfl⟩
  by_cases h2 : (8 : Int) < a.length
  · repeat (first | (with_reducible (first | apply wA | apply wB | apply wC | apply wD | apply wE | apply wF | apply wG | apply wH | apply wI | apply wJ | apply wK | apply wL | apply wM | apply wN | apply wO | apply wP | apply wQ rfl | apply wR | apply wS | apply wT | apply wU)) | ((with_reducible (first | apply wV | apply wW | apply wX | (apply wY [] hTT (cfYg_ok hk) noM_ok mixed; (focus kernel_rfl)))); (focus (simp only [Tryz.f7, cfYg, c41, c29, hd, hd2, h0, h2, gt_iff_lt, go_sem]; with_reducible rfl))) | (with_reducible refine wZ hTT (cfYg_ok hk) noM_ok ?_) | (with_reducible refine wa ?_; refine And.intro ?_ ?_; (focus kernel_rfl)))
    exact ⟨rfl, rfl, _, rfl, rfl⟩
  by_cases h3 : (8 : Int) < b.length
  · repeat (first | (with_reducible (first | apply wA | apply wB | apply wC | apply wD | apply wE | apply wF | apply wG | apply wH | apply wI | apply wJ | apply wK | apply wL | apply wM | apply wN | apply wO | apply wP | apply wQ rfl | apply wR | apply wS | apply wT | apply wU)) | ((with_reducible (first | apply wV | apply wW | apply wX | (apply wY [] hTT (cfYg_ok hk) noM_ok mixed; (focus kernel_rfl)))); (focus (simp only [Tryz.f7, cfYg, c41, c29, hd, hd2, h0, h2, h3, gt_iff_lt, go_sem]; with_reducible rfl))) | (with_reducible refine wZ hTT (cfYg_ok hk) noM_ok ?_) | (with_reducible refine wa ?_; refine And.intro ?_ ?_; (focus kernel_rfl)))
    exact ⟨rfl, rfl, _, rfl, rfl⟩
  repeat (first | (with_reducible (first | apply wA | ((fail_if_success (refine RunQ.seq (x := .region 3 _ _) ?_)); (apply wB)) | apply wC | apply wD | apply wE | apply wF | apply wG | apply wH | apply wI | apply wJ | apply wK | apply wL | apply wM | apply wN | apply wO | apply wP | apply wQ rfl | apply wR | apply wS | apply wT | apply wU)) | ((with_reducible (first | apply wV | apply wW | apply wX | (apply wY [] hTT (cfYg_ok hk) noM_ok mixed; (focus kernel_rfl)))); (focus (simp only [Tryz.f7, cfYg, c41, c29, hd, hd2, h0, h2, h3, gt_iff_lt, go_sem]; with_reducible rfl))) | ((fail_if_success (with_reducible show RunQ _ (.region 3 _ _) _ _)); (with_reducible refine wZ hTT (cfYg_ok hk) noM_ok ?_)) | (with_reducible refine wa ?_; refine And.intro ?_ ?_; (focus kernel_rfl)))
  refine RunQ.keep [5, 4, 2, 3] (by simp only [go_sem]; rfl) ?_
  by_cases h1 : figB s ls = true ∧ stgG ls g = true
  case neg =>
    have hR : pathR s ls g a b = .tuple [.sl .n [], ii 2] := by unfold pathR; rw [if_neg fun e => h1 ⟨e.1, e.2.1⟩]
    have hri : rightG s ls g = false := by
      unfold rightG
      rw [h0, Bool.true_and]
      cases a : figB s ls
      · rfl
      · cases b : stgG ls g
        · rfl
        · exact absurd ⟨a, b⟩ h1
    repeat (first | (with_reducible (first | apply wA | apply wB | apply wC | apply wD | apply wE | apply wF | apply wG | apply wH | apply wI | apply wJ | apply wK | apply wL | apply wM | apply wN | apply wO | apply wP | apply wQ rfl | apply wR | apply wS | apply wT | apply wU)) | ((with_reducible (first | apply wV | apply wW | apply wX | (apply wY [] hTT (cfYg_ok hk) noM_ok mixed; (focus kernel_rfl)))); (focus (simp only [Tryz.f7, cfYg, c29, c42, c43, hd, hd2, hd3, hd4, hR, hri, beq_self_eq_true, go_sem]; with_reducible rfl))) | (with_reducible refine wZ hTT (cfYg_ok hk) noM_ok ?_) | (with_reducible refine wa ?_; refine And.intro ?_ ?_; (focus kernel_rfl)))
    exact ⟨rfl, rfl, _, rfl, rfl⟩
  have hri : rightG s ls g = true := by unfold rightG; rw [h0, h1.1, h1.2]; rfl
  have hf := h1.1
  have hg := h1.2
  have hl := fig_len hf
  have hs : ls.length ≤ 1000 := by omega
  cases a2 : poseG ls a
  · have hR : pathR s ls g a b = .tuple [.sl .n [], ii 2] := by unfold pathR; rw [if_neg fun e => by rw [a2] at e; exact absurd e.2.2.1 (by simp)]
    repeat (first | (with_reducible (first | apply wA | apply wB | apply wC | apply wD | apply wE | apply wF | apply wG | apply wH | apply wI | apply wJ | apply wK | apply wL | apply wM | apply wN | apply wO | apply wP | apply wQ rfl | apply wR | apply wS | apply wT | apply wU)) | ((with_reducible (first | apply wV | apply wW | apply wX | (apply wY [] hTT (cfYg_ok hk) noM_ok mixed; (focus kernel_rfl)))); (focus (simp only [Tryz.f7, cfYg, c29, c42, c43, c86, hd, hd2, hd3, hd4, hs, hR, hri, a2, beq_self_eq_true, go_sem]; with_reducible rfl))) | (with_reducible refine wZ hTT (cfYg_ok hk) noM_ok ?_) | (with_reducible refine wa ?_; refine And.intro ?_ ?_; (focus kernel_rfl)))
    exact ⟨rfl, rfl, _, rfl, rfl⟩
  cases a3 : poseG ls b
  · have hR : pathR s ls g a b = .tuple [.sl .n [], ii 2] := by unfold pathR; rw [if_neg fun e => by rw [a3] at e; exact absurd e.2.2.2 (by simp)]
    repeat (first | (with_reducible (first | apply wA | apply wB | apply wC | apply wD | apply wE | apply wF | apply wG | apply wH | apply wI | apply wJ | apply wK | apply wL | apply wM | apply wN | apply wO | apply wP | apply wQ rfl | apply wR | apply wS | apply wT | apply wU)) | ((with_reducible (first | apply wV | apply wW | apply wX | (apply wY [] hTT (cfYg_ok hk) noM_ok mixed; (focus kernel_rfl)))); (focus (simp only [Tryz.f7, cfYg, c29, c42, c43, c86, hd, hd2, hd3, hd4, hs, hR, hri, a2, a3, beq_self_eq_true, go_sem]; with_reducible rfl))) | (with_reducible refine wZ hTT (cfYg_ok hk) noM_ok ?_) | (with_reducible refine wa ?_; refine And.intro ?_ ?_; (focus kernel_rfl)))
    exact ⟨rfl, rfl, _, rfl, rfl⟩
  have hP : pathR s ls g a b = if finG s ls g a = true ∧ finG s ls g b = true then
      if hasK (awayG s ls g b) a = true then .tuple [trsP (pathL s ls g (awayG s ls g b) (dG (awayG s ls g b) a).toNat a), ii 0] else .tuple [.sl .n [], ii 5]
    else .tuple [.sl .n [], ii 7] := by unfold pathR; rw [if_pos ⟨hf, hg, a2, a3⟩]
  cases a4 : finG s ls g a
  · have hR : pathR s ls g a b = .tuple [.sl .n [], ii 7] := by rw [hP, if_neg fun e => by rw [a4] at e; exact absurd e.1 (by simp)]
    repeat (first | (with_reducible (first | apply wA | apply wB | apply wC | apply wD | apply wE | apply wF | apply wG | apply wH | apply wI | apply wJ | apply wK | apply wL | apply wM | apply wN | apply wO | apply wP | apply wQ rfl | apply wR | apply wS | apply wT | apply wU)) | ((with_reducible (first | apply wV | apply wW | apply wX | (apply wY [] hTT (cfYg_ok hk) noM_ok mixed; (focus kernel_rfl)))); (focus (simp only [Tryz.f7, cfYg, c29, c42, c43, c86, c44, hd, hd2, hd3, hd4, hs, hR, hri, hf, hg, a2, a3, a4, beq_self_eq_true, go_sem]; with_reducible rfl))) | (with_reducible refine wZ hTT (cfYg_ok hk) noM_ok ?_) | (with_reducible refine wa ?_; refine And.intro ?_ ?_; (focus kernel_rfl)))
    exact ⟨rfl, rfl, _, rfl, rfl⟩
  cases a5 : finG s ls g b
  · have hR : pathR s ls g a b = .tuple [.sl .n [], ii 7] := by rw [hP, if_neg fun e => by rw [a5] at e; exact absurd e.2 (by simp)]
    repeat (first | (with_reducible (first | apply wA | apply wB | apply wC | apply wD | apply wE | apply wF | apply wG | apply wH | apply wI | apply wJ | apply wK | apply wL | apply wM | apply wN | apply wO | apply wP | apply wQ rfl | apply wR | apply wS | apply wT | apply wU)) | ((with_reducible (first | apply wV | apply wW | apply wX | (apply wY [] hTT (cfYg_ok hk) noM_ok mixed; (focus kernel_rfl)))); (focus (simp only [Tryz.f7, cfYg, c29, c42, c43, c86, c44, hd, hd2, hd3, hd4, hs, hR, hri, hf, hg, a2, a3, a4, a5, beq_self_eq_true, go_sem]; with_reducible rfl))) | (with_reducible refine wZ hTT (cfYg_ok hk) noM_ok ?_) | (with_reducible refine wa ?_; refine And.intro ?_ ?_; (focus kernel_rfl)))
    exact ⟨rfl, rfl, _, rfl, rfl⟩
  rw [if_pos ⟨a4, a5⟩] at hP
  have hX : rpathR s ls g a b = if hasK (awayG s ls g b) a = true then .tuple [trsP (pathL s ls g (awayG s ls g b) (dG (awayG s ls g b) a).toNat a), .bool true] else .tuple [.sl .n [], .bool false] := by unfold rpathR; rfl
  have hbd := dG_bd (s := s) (ls := ls) (g := g) (f := b) a
  have hpl := pathL_len (s := s) (ls := ls) (g := g) (Q := awayG s ls g b) (dG (awayG s ls g b) a).toNat a
  generalize pathL s ls g (awayG s ls g b) (dG (awayG s ls g b) a).toNat a = P at *
  generalize awayG s ls g b = Q at *
  cases hh : hasK Q a
  · rw [hh] at hP hX
    rw [if_neg (by simp)] at hP hX
    repeat (first | (with_reducible (first | apply wA | apply wB | apply wC | apply wD | apply wE | apply wF | apply wG | apply wH | apply wI | apply wJ | apply wK | apply wL | apply wM | apply wN | apply wO | apply wP | apply wQ rfl | apply wR | apply wS | apply wT | apply wU)) | ((with_reducible (first | apply wV | apply wW | apply wX | (apply wY [] hTT (cfYg_ok hk) noM_ok mixed; (focus kernel_rfl)))); (focus (simp only [Tryz.f7, cfYg, c29, c42, c43, c45, c86, c44, hd, hd2, hd3, hd4, hs, hP, hX, hri, hf, hg, a2, a3, a4, a5, beq_self_eq_true, and_self, if_true, go_sem]; with_reducible rfl))) | (with_reducible refine wZ hTT (cfYg_ok hk) noM_ok ?_) | (with_reducible refine wa ?_; refine And.intro ?_ ?_; (focus kernel_rfl)))
    exact ⟨rfl, rfl, _, rfl, rfl⟩
  rw [hh] at hP hX
  obtain ⟨zt, hzt, hzk⟩ := trsP_z P
  rw [if_pos rfl] at hP hX
  rw [hzt] at hP hX
  have hdt := decTs1_enc hzk
  have hPl : P.length ≤ maxLen := by unfold maxLen; omega
  have hPP : decide (P = P) = true := by simp
  repeat (first | (with_reducible (first | apply wA | apply wB | apply wC | apply wD | apply wE | apply wF | apply wG | apply wH | apply wI | apply wJ | apply wK | apply wL | apply wM | apply wN | apply wO | apply wP | apply wQ rfl | apply wR | apply wS | apply wT | apply wU)) | ((with_reducible (first | apply wV | apply wW | apply wX | (apply wY [] hTT (cfYg_ok hk) noM_ok mixed; (focus kernel_rfl)))); (focus (simp only [Tryz.f7, cfYg, c29, c42, c43, c45, c46, c86, c44, hd, hd2, hd3, hd4, hs, hP, hX, hdt, hPl, hPP, hri, hf, hg, a2, a3, a4, a5, beq_self_eq_true, and_self, if_true, go_sem]; with_reducible rfl))) | (with_reducible refine wZ hTT (cfYg_ok hk) noM_ok ?_) | (with_reducible refine wa ?_; refine And.intro ?_ ?_; (focus kernel_rfl)))
  exact ⟨rfl, rfl, _, rfl, rfl⟩
end Go.Pv
