/- The laws JointParts and JointApart: their functions return true, whatever they are given. -/
import Derived.Test.YtmnocohggpmjcaaGreatDoorQmcParts
import Derived.Test.YtmnocohggpmjcaaGreatDoorQmcRParts
import Derived.Test.YtmnocohggpmjcaaGreatDoorQoFirst
import Derived.Test.YtmnocohggpmjcaaGreatDoorQgEnds
set_option linter.all false
namespace Go.Pv
open Go Go.RowKit Go.Proofs
set_option maxRecDepth 200000
set_option maxHeartbeats 8000000
def c51 : List PV → List Box → Option (PRes × List Box)
  | [v, w], sg => match decFig v, decStg w with
    | some (s, ls), some g => if figB s ls = true ∧ stgG ls g = true then some (.ret (ii (partsG s ls g : Nat)), sg) else none
    | _, _ => none
  | _, _ => none
theorem c51_ok : ConOk Tryz.prog 51 c51 := ConOk.of0 (ent Tryz.func51 rfl) fun args sg r sg' h => by
  unfold c51 at h
  split at h <;> try (cases h; done)
  split at h <;> try (cases h; done)
  rename_i h1 h2
  split at h <;> cases h
  rename_i hc
  obtain ⟨z, rfl, hz⟩ := decFig_inv h1
  obtain ⟨zh, zr, rfl, hh, hr⟩ := decStg_inv h2
  exact ⟨_, rfl, rfl, by rw [ltBL_cons, ltB_fig, ltBL_cons, ltB_stg]; rfl, RParts_51 _ _ _ _ _ _ (zOk_n' hz) hh hr hc.1 hc.2⟩
def cfMm : CallF := cfAdd (cfAdd (cfAdd (cfAdd (cfAdd cf0 41 c41) 43 c43) 29 c29) 50 c50) 51 c51
theorem cfMm_ok (hk : ConOk Tryz.prog 29 c29) : CallFOk Tryz.prog cfMm := cfAdd_ok (cfAdd_ok (cfAdd_ok (cfAdd_ok (cfAdd_ok cf0_ok c41_ok) c43_ok) hk) c50_ok) c51_ok
theorem parts_9 (hk : ConOk Tryz.prog 29 c29) (s : Int) (z zh zr : Z) (ls : List Lb) (g : Stg) (hzo : zOk z (ls.map encLb) = true) (hh : zOk zh (g.hs.map encFld) = true) (hr : zOk zr (g.rs.map ii) = true) :
    CallOk Tryz.prog 9 [.agg [ii s, .sl z (ls.map encLb)], encStg zh zr g] [] (.ret (.bool true)) [] := by
  refine CallOk.of0 hTT Tryz.func9 rfl rfl ?_
  have hd := decFig_enc s z ls hzo
  have hd2 := decStg_enc hh hr
  unfold encStg at hd2 ⊢
  cases h0 : stagedG ls g
  · repeat (first | (with_reducible (first | apply wA | apply wB | apply wC | apply wD | apply wE | apply wF | apply wG | apply wH | apply wI | apply wJ | apply wK | apply wL | apply wM | apply wN | apply wO | apply wP | apply wQ rfl | apply wR | apply wS | apply wT | apply wU)) | ((with_reducible (first | apply wV | apply wW | apply wX | (apply wY [] hTT (cfMm_ok hk) noM_ok mixed; (focus kernel_rfl)))); (focus (simp only [Tryz.f9, cfMm, c41, c29, hd, hd2, h0, go_sem]; with_reducible rfl))) | (with_reducible refine wZ hTT (cfMm_ok hk) noM_ok ?_) | (with_reducible refine wa ?_; refine And.intro ?_ ?_; (focus kernel_rfl)))
    exact ⟨rfl, rfl, _, rfl, rfl⟩
  have e22 : ((2 : Int) == 2) = true := rfl
  have e00 : ((0 : Int) == 0) = true := rfl
  by_cases h1 : figB s ls = true ∧ stgG ls g = true
  case neg =>
    have hR : partR s ls g = .tuple [ii 0, ii 2] := by unfold partR; rw [if_neg h1]
    have hri : rightG s ls g = false := by
      unfold rightG
      rw [h0, Bool.true_and]
      cases a : figB s ls
      · rfl
      · cases b : stgG ls g
        · rfl
        · exact absurd ⟨a, b⟩ h1
    repeat (first | (with_reducible (first | apply wA | apply wB | apply wC | apply wD | apply wE | apply wF | apply wG | apply wH | apply wI | apply wJ | apply wK | apply wL | apply wM | apply wN | apply wO | apply wP | apply wQ rfl | apply wR | apply wS | apply wT | apply wU)) | ((with_reducible (first | apply wV | apply wW | apply wX | (apply wY [] hTT (cfMm_ok hk) noM_ok mixed; (focus kernel_rfl)))); (focus (simp only [Tryz.f9, cfMm, c41, c43, c50, c29, hd, hd2, h0, hR, hri, e22, e00, go_sem]; with_reducible rfl))) | (with_reducible refine wZ hTT (cfMm_ok hk) noM_ok ?_) | (with_reducible refine wa ?_; refine And.intro ?_ ?_; (focus kernel_rfl)))
    exact ⟨rfl, rfl, _, rfl, rfl⟩
  have hri : rightG s ls g = true := by unfold rightG; rw [h0, h1.1, h1.2]; rfl
  have hf := h1.1
  have hg := h1.2
  have hR : partR s ls g = .tuple [ii (partsG s ls g : Nat), ii 0] := by unfold partR; rw [if_pos h1]
  repeat (first | (with_reducible (first | apply wA | apply wB | apply wC | apply wD | apply wE | apply wF | apply wG | apply wH | apply wI | apply wJ | apply wK | apply wL | apply wM | apply wN | apply wO | apply wP | apply wQ rfl | apply wR | apply wS | apply wT | apply wU)) | ((with_reducible (first | apply wV | apply wW | apply wX | (apply wY [] hTT (cfMm_ok hk) noM_ok mixed; (focus kernel_rfl)))); (focus (simp only [Tryz.f9, cfMm, c41, c43, c50, c51, c29, hd, hd2, h0, hR, hri, hf, hg, e00, and_self, if_true, beq_self_eq_true, go_sem]; with_reducible rfl))) | (with_reducible refine wZ hTT (cfMm_ok hk) noM_ok ?_) | (with_reducible refine wa ?_; refine And.intro ?_ ?_; (focus kernel_rfl)))
  exact ⟨rfl, rfl, _, rfl, rfl⟩
def codG (s : Int) (ls : List Lb) (g : Stg) (a b : List Int) : Int := if finG s ls g a = true ∧ finG s ls g b = true then (if hasK (awayG s ls g b) a = true then 0 else 5) else 7
theorem pathR_cod {s : Int} {ls : List Lb} {g : Stg} {a b : List Int} (hf : figB s ls = true) (hg : stgG ls g = true) (ha : poseG ls a = true) (hb : poseG ls b = true) : ∃ (z : Z) (P : List (Int × Int)), pathR s ls g a b = .tuple [.sl z (P.map encT), ii (codG s ls g a b)] := by
  unfold pathR codG
  rw [if_pos ⟨hf, hg, ha, hb⟩]
  split
  · split
    · generalize pathL s ls g (awayG s ls g b) (dG (awayG s ls g b) a).toNat a = P
      obtain ⟨z, w1, _⟩ := trsP_z P
      exact ⟨z, P, by rw [w1]⟩
    · exact ⟨.n, [], rfl⟩
  · exact ⟨.n, [], rfl⟩
theorem cod_5 {s : Int} {ls : List Lb} {g : Stg} {a b : List Int} (h : codG s ls g a b = 5) : finG s ls g a = true ∧ finG s ls g b = true ∧ hasK (awayG s ls g b) a = false := by
  unfold codG at h
  split at h
  · rename_i h1
    cases hk : hasK (awayG s ls g b) a
    · exact ⟨h1.1, h1.2, rfl⟩
    · rw [hk, if_pos rfl] at h; cases h
  · cases h
theorem cod_0 {s : Int} {ls : List Lb} {g : Stg} {a b : List Int} (h : codG s ls g a b = 0) : finG s ls g a = true ∧ finG s ls g b = true ∧ hasK (awayG s ls g b) a = true := by
  unfold codG at h
  split at h
  · rename_i h1
    cases hk : hasK (awayG s ls g b) a
    · rw [hk, if_neg (by simp)] at h; cases h
    · exact ⟨h1.1, h1.2, rfl⟩
  · cases h
theorem cod_one {s : Int} {ls : List Lb} {g : Stg} {a b : List Int} (hf : figB s ls = true) (ha : poseG ls a = true) (hb : poseG ls b = true) (h : partsG s ls g = 1) : codG s ls g a b ≠ 5 := fun e => by
  obtain ⟨h1, h2, h3⟩ := cod_5 e
  rw [part_one hf h ha h1 hb h2] at h3
  cases h3
theorem cod_two {s : Int} {ls : List Lb} {g : Stg} {a b c : List Int} (hf : figB s ls = true) (ha : poseG ls a = true) (hb : poseG ls b = true) (hc : poseG ls c = true) (h : partsG s ls g ≤ 2) : ¬ (codG s ls g a b = 5 ∧ codG s ls g b c = 5 ∧ codG s ls g a c = 5) := fun ⟨e1, e2, e3⟩ => by
  obtain ⟨a1, a2, a3⟩ := cod_5 e1
  obtain ⟨b1, b2, b3⟩ := cod_5 e2
  obtain ⟨c1, c2, c3⟩ := cod_5 e3
  rcases part_two hf h ha a1 hb a2 hc b2 with h1 | h1 | h1
  · rw [h1] at a3; cases a3
  · rw [h1] at b3; cases b3
  · rw [h1] at c3; cases c3
theorem cod_tr {s : Int} {ls : List Lb} {g : Stg} {a b c : List Int} (hf : figB s ls = true) (ha : poseG ls a = true) (hb : poseG ls b = true) (hc : poseG ls c = true) (h1 : codG s ls g a b = 0) (h2 : codG s ls g b c = 0) : codG s ls g a c = 0 := by
  obtain ⟨a1, a2, a3⟩ := cod_0 h1
  obtain ⟨b1, b2, b3⟩ := cod_0 h2
  have h3 : hasK (awayG s ls g b) c = true := by
    rw [← (met_sym hf hb b1 hc b2).1]; exact b3
  have h4 := met_trans hf hc b2 hb b1 h3 a3
  unfold codG
  rw [if_pos ⟨a1, b2⟩, if_pos h4]
def cfMm2 : CallF := cfAdd (cfAdd (cfAdd (cfAdd (cfAdd (cfAdd cf0 43 c43) 27 c86) 29 c29) 50 c50) 52 c52) 42 c42
theorem cfMm2_ok (hk : ConOk Tryz.prog 29 c29) : CallFOk Tryz.prog cfMm2 := cfAdd_ok (cfAdd_ok (cfAdd_ok (cfAdd_ok (cfAdd_ok (cfAdd_ok cf0_ok c43_ok) c27_ok) hk) c50_ok) c52_ok) c42_ok
theorem apart_10 (hk : ConOk Tryz.prog 29 c29) (s : Int) (z zh zr za zb zc : Z) (ls : List Lb) (g : Stg) (a b c : List Int) (hzo : zOk z (ls.map encLb) = true) (hh : zOk zh (g.hs.map encFld) = true) (hr : zOk zr (g.rs.map ii) = true) (ha : zOk za (a.map ii) = true) (hb : zOk zb (b.map ii) = true) (hc : zOk zc (c.map ii) = true) :
    CallOk Tryz.prog 10 [.agg [ii s, .sl z (ls.map encLb)], encStg zh zr g, .sl za (a.map ii), .sl zb (b.map ii), .sl zc (c.map ii)] [] (.ret (.bool true)) [] := by
  refine CallOk.of0 hTT Tryz.func10 rfl rfl ?_
  have hd := decFig_enc s z ls hzo
  have hd2 := decStg_enc hh hr
  have hd3 := decIs1_enc ha
  have hd4 := decIs1_enc hb
  have hd5 := decIs1_enc hc
  unfold encStg at hd2 ⊢
  cases h1 : rightG s ls g
  · repeat (first | (with_reducible (first | apply wA | apply wB | apply wC | apply wD | apply wE | apply wF | apply wG | apply wH | apply wI | apply wJ | apply wK | apply wL | apply wM | apply wN | apply wO | apply wP | apply wQ rfl | apply wR | apply wS | apply wT | apply wU)) | ((with_reducible (first | apply wV | apply wW | apply wX | (apply wY [] hTT (cfMm2_ok hk) noM_ok mixed; (focus kernel_rfl)))); (focus (simp only [Tryz.f10, cfMm2, c43, c29, hd, hd2, h1, go_sem]; with_reducible rfl))) | (with_reducible refine wZ hTT (cfMm2_ok hk) noM_ok ?_) | (with_reducible refine wa ?_; refine And.intro ?_ ?_; (focus kernel_rfl)))
    exact ⟨rfl, rfl, _, rfl, rfl⟩
  by_cases h2 : (8 : Int) < a.length
  · repeat (first | (with_reducible (first | apply wA | apply wB | apply wC | apply wD | apply wE | apply wF | apply wG | apply wH | apply wI | apply wJ | apply wK | apply wL | apply wM | apply wN | apply wO | apply wP | apply wQ rfl | apply wR | apply wS | apply wT | apply wU)) | ((with_reducible (first | apply wV | apply wW | apply wX | (apply wY [] hTT (cfMm2_ok hk) noM_ok mixed; (focus kernel_rfl)))); (focus (simp only [Tryz.f10, cfMm2, c43, c29, hd, hd2, h1, h2, gt_iff_lt, go_sem]; with_reducible rfl))) | (with_reducible refine wZ hTT (cfMm2_ok hk) noM_ok ?_) | (with_reducible refine wa ?_; refine And.intro ?_ ?_; (focus kernel_rfl)))
    exact ⟨rfl, rfl, _, rfl, rfl⟩
  by_cases h3 : (8 : Int) < b.length
  · repeat (first | (with_reducible (first | apply wA | apply wB | apply wC | apply wD | apply wE | apply wF | apply wG | apply wH | apply wI | apply wJ | apply wK | apply wL | apply wM | apply wN | apply wO | apply wP | apply wQ rfl | apply wR | apply wS | apply wT | apply wU)) | ((with_reducible (first | apply wV | apply wW | apply wX | (apply wY [] hTT (cfMm2_ok hk) noM_ok mixed; (focus kernel_rfl)))); (focus (simp only [Tryz.f10, cfMm2, c43, c29, hd, hd2, h1, h2, h3, gt_iff_lt, go_sem]; with_reducible rfl))) | (with_reducible refine wZ hTT (cfMm2_ok hk) noM_ok ?_) | (with_reducible refine wa ?_; refine And.intro ?_ ?_; (focus kernel_rfl)))
    exact ⟨rfl, rfl, _, rfl, rfl⟩
  by_cases h4 : (8 : Int) < c.length
  · repeat (first | (with_reducible (first | apply wA | apply wB | apply wC | apply wD | apply wE | apply wF | apply wG | apply wH | apply wI | apply wJ | apply wK | apply wL | apply wM | apply wN | apply wO | apply wP | apply wQ rfl | apply wR | apply wS | apply wT | apply wU)) | ((with_reducible (first | apply wV | apply wW | apply wX | (apply wY [] hTT (cfMm2_ok hk) noM_ok mixed; (focus kernel_rfl)))); (focus (simp only [Tryz.f10, cfMm2, c43, c29, hd, hd2, h1, h2, h3, h4, gt_iff_lt, go_sem]; with_reducible rfl))) | (with_reducible refine wZ hTT (cfMm2_ok hk) noM_ok ?_) | (with_reducible refine wa ?_; refine And.intro ?_ ?_; (focus kernel_rfl)))
    exact ⟨rfl, rfl, _, rfl, rfl⟩
  have hrr : figB s ls = true ∧ stgG ls g = true := by
    unfold rightG at h1
    simp only [Bool.and_eq_true] at h1
    exact ⟨h1.1.2, h1.2⟩
  have hf := hrr.1
  have hg := hrr.2
  have hl := fig_len hf
  have hs2 : ls.length ≤ 1000 := by omega
  cases h5 : poseG ls a
  · repeat (first | (with_reducible (first | apply wA | apply wB | apply wC | apply wD | apply wE | apply wF | apply wG | apply wH | apply wI | apply wJ | apply wK | apply wL | apply wM | apply wN | apply wO | apply wP | apply wQ rfl | apply wR | apply wS | apply wT | apply wU)) | ((with_reducible (first | apply wV | apply wW | apply wX | (apply wY [] hTT (cfMm2_ok hk) noM_ok mixed; (focus kernel_rfl)))); (focus (simp only [Tryz.f10, cfMm2, c43, c29, c86, hd, hd2, hd3, hs2, h1, h2, h3, h4, h5, gt_iff_lt, go_sem]; with_reducible rfl))) | (with_reducible refine wZ hTT (cfMm2_ok hk) noM_ok ?_) | (with_reducible refine wa ?_; refine And.intro ?_ ?_; (focus kernel_rfl)))
    exact ⟨rfl, rfl, _, rfl, rfl⟩
  cases h6 : poseG ls b
  · repeat (first | (with_reducible (first | apply wA | apply wB | apply wC | apply wD | apply wE | apply wF | apply wG | apply wH | apply wI | apply wJ | apply wK | apply wL | apply wM | apply wN | apply wO | apply wP | apply wQ rfl | apply wR | apply wS | apply wT | apply wU)) | ((with_reducible (first | apply wV | apply wW | apply wX | (apply wY [] hTT (cfMm2_ok hk) noM_ok mixed; (focus kernel_rfl)))); (focus (simp only [Tryz.f10, cfMm2, c43, c29, c86, hd, hd2, hd3, hd4, hs2, h1, h2, h3, h4, h5, h6, gt_iff_lt, go_sem]; with_reducible rfl))) | (with_reducible refine wZ hTT (cfMm2_ok hk) noM_ok ?_) | (with_reducible refine wa ?_; refine And.intro ?_ ?_; (focus kernel_rfl)))
    exact ⟨rfl, rfl, _, rfl, rfl⟩
  cases h7 : poseG ls c
  · repeat (first | (with_reducible (first | apply wA | apply wB | apply wC | apply wD | apply wE | apply wF | apply wG | apply wH | apply wI | apply wJ | apply wK | apply wL | apply wM | apply wN | apply wO | apply wP | apply wQ rfl | apply wR | apply wS | apply wT | apply wU)) | ((with_reducible (first | apply wV | apply wW | apply wX | (apply wY [] hTT (cfMm2_ok hk) noM_ok mixed; (focus kernel_rfl)))); (focus (simp only [Tryz.f10, cfMm2, c43, c29, c86, hd, hd2, hd3, hd4, hd5, hs2, h1, h2, h3, h4, h5, h6, h7, gt_iff_lt, go_sem]; with_reducible rfl))) | (with_reducible refine wZ hTT (cfMm2_ok hk) noM_ok ?_) | (with_reducible refine wa ?_; refine And.intro ?_ ?_; (focus kernel_rfl)))
    exact ⟨rfl, rfl, _, rfl, rfl⟩
  have hR : partR s ls g = .tuple [ii (partsG s ls g : Nat), ii 0] := by unfold partR; rw [if_pos hrr]
  obtain ⟨z1, P1, p1⟩ := pathR_cod (g := g) hf hg h5 h6
  obtain ⟨z2, P2, p2⟩ := pathR_cod (g := g) hf hg h6 h7
  obtain ⟨z3, P3, p3⟩ := pathR_cod (g := g) hf hg h5 h7
  have q1 := cod_one (g := g) hf h5 h6
  have q2 := cod_one (g := g) hf h6 h7
  have q3 := cod_one (g := g) hf h5 h7
  have q4 := cod_two (g := g) hf h5 h6 h7
  have q5 := cod_tr (g := g) hf h5 h6 h7
  have hle := part_le (g := g) hf
  have hz0 := part_zero (g := g) hf
  generalize codG s ls g a b = x1 at *
  generalize codG s ls g b c = x2 at *
  generalize codG s ls g a c = x3 at *
  have hF := firstR_of (g := g) hf hg
  generalize partsG s ls g = n at *
  have n00 : ((0 : Int) != 0) = false := rfl
  have n50 : ((5 : Int) != 0) = true := rfl
  have n55 : ((5 : Int) != 5) = false := rfl
  have e55 : ((5 : Int) == 5) = true := rfl
  have e05 : ((0 : Int) == 5) = false := rfl
  have btt : (true != true) = false := rfl
  have bff : (false != false) = false := rfl
  have e00 : ((0 : Int) == 0) = true := rfl
  have hn0 : ¬ (n : Int) < 0 := by omega
  repeat (first | (with_reducible (first | apply wA | ((fail_if_success (refine RunQ.seq (x := .region 3 _ _) ?_)); (apply wB)) | apply wC | apply wD | apply wE | apply wF | apply wG | apply wH | apply wI | apply wJ | apply wK | apply wL | apply wM | apply wN | apply wO | apply wP | apply wQ rfl | apply wR | apply wS | apply wT | apply wU)) | ((with_reducible (first | apply wV | apply wW | apply wX | (apply wY [] hTT (cfMm2_ok hk) noM_ok mixed; (focus kernel_rfl)))); (focus (simp only [Tryz.f10, cfMm2, c43, c29, c86, hd, hd2, hd3, hd4, hd5, hs2, h1, h2, h3, h4, h5, h6, h7, gt_iff_lt, go_sem]; with_reducible rfl))) | ((fail_if_success (with_reducible show RunQ _ (.region 3 _ _) _ _)); (with_reducible refine wZ hTT (cfMm2_ok hk) noM_ok ?_)) | (with_reducible refine wa ?_; refine And.intro ?_ ?_; (focus kernel_rfl)))
  refine RunQ.keep [6, 5, 2, 3, 4] (by simp only [go_sem]; rfl) ?_
  obtain ⟨zl, L, m, gc, hFR, hgc⟩ : ∃ (zl : Z) (L : List PV) (m gc : Int), firstR s ls g = .tuple [.sl zl L, ii m, ii gc] ∧ ((gc = 5 ∧ n = 0 ∧ m = 0) ∨ (gc = 0 ∧ n ≠ 0 ∧ (n : Int) ≤ m)) := by
    rcases hF with ⟨hE, hFR⟩ | ⟨zf, l, r, hE, hzf, hFR⟩
    · exact ⟨_, _, _, _, hFR, .inl ⟨rfl, hz0.2 hE, rfl⟩⟩
    · refine ⟨_, _, _, _, hFR, .inr ⟨rfl, fun e => ?_, ?_⟩⟩
      · rw [hz0.1 e] at hE; cases hE
      · rw [hE, List.length_cons] at hle
        omega
  repeat (first | (with_reducible (first | apply wA | ((fail_if_success (refine RunQ.seq (x := .region 5 _ _) ?_)); (apply wB)) | apply wC | apply wD | apply wE | apply wF | apply wG | apply wH | apply wI | apply wJ | apply wK | apply wL | apply wM | apply wN | apply wO | apply wP | apply wQ rfl | apply wR | apply wS | apply wT | apply wU)) | ((with_reducible (first | apply wV | apply wW | apply wX | (apply wY [] hTT (cfMm2_ok hk) noM_ok mixed; (focus kernel_rfl)))); (focus (simp only [Tryz.f10, cfMm2, c50, c52, hd, hd2, hR, hFR, go_sem]; with_reducible rfl))) | ((fail_if_success (with_reducible show RunQ _ (.region 5 _ _) _ _)); (with_reducible refine wZ hTT (cfMm2_ok hk) noM_ok ?_)) | (with_reducible refine wa ?_; refine And.intro ?_ ?_; (focus kernel_rfl)))
  refine RunQ.keep [15, 14, 12, 11, 6, 5, 2, 3, 4] (by simp only [go_sem]; rfl) ?_
  repeat (first | (with_reducible (first | apply wA | ((fail_if_success (refine RunQ.seq (x := .region 8 _ _) ?_)); (apply wB)) | apply wC | apply wD | apply wE | apply wF | apply wG | apply wH | apply wI | apply wJ | apply wK | apply wL | apply wM | apply wN | apply wO | apply wP | apply wQ rfl | apply wR | apply wS | apply wT | apply wU)) | ((with_reducible (first | apply wV | apply wW | apply wX | (apply wY [] hTT (cfMm2_ok hk) noM_ok mixed; (focus kernel_rfl)))); (focus (simp only [Tryz.f10, cfMm2, c42, hd, hd2, hd3, hd4, hd5, p1, p2, p3, go_sem]; with_reducible rfl))) | ((fail_if_success (with_reducible show RunQ _ (.region 8 _ _) _ _)); (with_reducible refine wZ hTT (cfMm2_ok hk) noM_ok ?_)) | (with_reducible refine wa ?_; refine And.intro ?_ ?_; (focus kernel_rfl)))
  refine RunQ.keep [21, 19, 17, 15, 14, 12, 11] (by simp only [go_sem]; rfl) ?_
  refine RunQ.join (k0 := 2) ⟨[(122, .bool false), (21, ii x3), (19, ii x2), (17, ii x1), (11, ii n)], 166, [.var [ii s, .sl z (ls.map encLb)] false, .var [ii g.e.a, ii g.e.b, ii g.e.c, ii g.e.d, .sl zh (g.hs.map encFld), .sl zr (g.rs.map ii)] false]⟩ rfl ?_ ?_
  · rcases hgc with ⟨rfl, hn, hm⟩ | ⟨rfl, hn, hm⟩
    · have k1 : ¬ m < (n : Int) := by omega
      have k2 : ((n : Int) == 0) = true := by rw [hn]; rfl
      repeat (first | (with_reducible (first | apply wA | apply wB | apply wC | apply wD | apply wE | apply wF | apply wG | apply wH | apply wI | apply wJ | apply wK | apply wL | apply wM | apply wN | apply wO | apply wP | apply wQ rfl | apply wR | apply wS | apply wT | apply wU)) | ((with_reducible (first | apply wV | apply wW | apply wX | (apply wY [] hTT (cfMm2_ok hk) noM_ok mixed; (focus kernel_rfl)))); (focus (simp only [Tryz.f10, n00, n50, n55, e55, btt, hn0, k1, k2, gt_iff_lt, go_sem]; with_reducible rfl))) | (with_reducible refine wZ hTT (cfMm2_ok hk) noM_ok ?_) | (with_reducible refine wa ?_; refine And.intro ?_ ?_; (focus kernel_rfl)))
      exact ⟨rfl, Back.keep [122, 21, 19, 17, 11] (by simp only [go_sem])⟩
    · have k1 : ¬ m < (n : Int) := by omega
      have k2 : ((n : Int) == 0) = false := by simp; omega
      repeat (first | (with_reducible (first | apply wA | apply wB | apply wC | apply wD | apply wE | apply wF | apply wG | apply wH | apply wI | apply wJ | apply wK | apply wL | apply wM | apply wN | apply wO | apply wP | apply wQ rfl | apply wR | apply wS | apply wT | apply wU)) | ((with_reducible (first | apply wV | apply wW | apply wX | (apply wY [] hTT (cfMm2_ok hk) noM_ok mixed; (focus kernel_rfl)))); (focus (simp only [Tryz.f10, n00, e05, bff, hn0, k1, k2, gt_iff_lt, go_sem]; with_reducible rfl))) | (with_reducible refine wZ hTT (cfMm2_ok hk) noM_ok ?_) | (with_reducible refine wa ?_; refine And.intro ?_ ?_; (focus kernel_rfl)))
      exact ⟨rfl, Back.keep [122, 21, 19, 17, 11] (by simp only [go_sem])⟩
  repeat (first | (with_reducible (first | apply wA | ((fail_if_success (refine RunQ.seq (x := .region 10 _ _) ?_)); (apply wB)) | apply wC | apply wD | apply wE | apply wF | apply wG | apply wH | apply wI | apply wJ | apply wK | apply wL | apply wM | apply wN | apply wO | apply wP | apply wQ rfl | apply wR | apply wS | apply wT | apply wU)) | ((with_reducible (first | apply wV | apply wW | apply wX | (apply wY [] hTT (cfMm2_ok hk) noM_ok mixed; (focus kernel_rfl)))); (focus (simp only [Tryz.f10, go_sem]; with_reducible rfl))) | ((fail_if_success (with_reducible show RunQ _ (.region 10 _ _) _ _)); (with_reducible refine wZ hTT (cfMm2_ok hk) noM_ok ?_)) | (with_reducible refine wa ?_; refine And.intro ?_ ?_; (focus kernel_rfl)))
  refine RunQ.join (k0 := 2) ⟨[(152, .bool false), (21, ii x3), (19, ii x2), (17, ii x1)], 166, [.var [ii s, .sl z (ls.map encLb)] false, .var [ii g.e.a, ii g.e.b, ii g.e.c, ii g.e.d, .sl zh (g.hs.map encFld), .sl zr (g.rs.map ii)] false]⟩ rfl ?_ ?_
  · by_cases c1 : n = 1
    · have k1 : ((n : Int) == 1) = true := by rw [c1]; rfl
      have k2 : (x1 == 5) = false := by simpa using q1 c1
      have k3 : (x2 == 5) = false := by simpa using q2 c1
      have k4 : (x3 == 5) = false := by simpa using q3 c1
      have k5 : (n : Int) ≤ 2 := by omega
      repeat (first | (with_reducible (first | apply wA | apply wB | apply wC | apply wD | apply wE | apply wF | apply wG | apply wH | apply wI | apply wJ | apply wK | apply wL | apply wM | apply wN | apply wO | apply wP | apply wQ rfl | apply wR | apply wS | apply wT | apply wU)) | ((with_reducible (first | apply wV | apply wW | apply wX | (apply wY [] hTT (cfMm2_ok hk) noM_ok mixed; (focus kernel_rfl)))); (focus (simp only [Tryz.f10, k1, k2, k3, k4, k5, go_sem]; with_reducible rfl))) | (with_reducible refine wZ hTT (cfMm2_ok hk) noM_ok ?_) | (with_reducible refine wa ?_; refine And.intro ?_ ?_; (focus kernel_rfl)))
      exact ⟨rfl, Back.keep [152, 21, 19, 17] (by simp only [go_sem])⟩
    have k1 : ((n : Int) == 1) = false := by simp; omega
    by_cases c2 : n ≤ 2
    · have k5 : (n : Int) ≤ 2 := by omega
      by_cases d1 : x1 = 5
      · have k2 : (x1 == 5) = true := by simpa using d1
        by_cases d2 : x2 = 5
        · have k3 : (x2 == 5) = true := by simpa using d2
          have k4 : (x3 == 5) = false := by
            rw [beq_eq_false_iff_ne]
            exact fun e => q4 c2 ⟨d1, d2, e⟩
          repeat (first | (with_reducible (first | apply wA | apply wB | apply wC | apply wD | apply wE | apply wF | apply wG | apply wH | apply wI | apply wJ | apply wK | apply wL | apply wM | apply wN | apply wO | apply wP | apply wQ rfl | apply wR | apply wS | apply wT | apply wU)) | ((with_reducible (first | apply wV | apply wW | apply wX | (apply wY [] hTT (cfMm2_ok hk) noM_ok mixed; (focus kernel_rfl)))); (focus (simp only [Tryz.f10, k1, k2, k3, k4, k5, go_sem]; with_reducible rfl))) | (with_reducible refine wZ hTT (cfMm2_ok hk) noM_ok ?_) | (with_reducible refine wa ?_; refine And.intro ?_ ?_; (focus kernel_rfl)))
          exact ⟨rfl, Back.keep [152, 21, 19, 17] (by simp only [go_sem])⟩
        · have k3 : (x2 == 5) = false := by simpa using d2
          repeat (first | (with_reducible (first | apply wA | apply wB | apply wC | apply wD | apply wE | apply wF | apply wG | apply wH | apply wI | apply wJ | apply wK | apply wL | apply wM | apply wN | apply wO | apply wP | apply wQ rfl | apply wR | apply wS | apply wT | apply wU)) | ((with_reducible (first | apply wV | apply wW | apply wX | (apply wY [] hTT (cfMm2_ok hk) noM_ok mixed; (focus kernel_rfl)))); (focus (simp only [Tryz.f10, k1, k2, k3, k5, go_sem]; with_reducible rfl))) | (with_reducible refine wZ hTT (cfMm2_ok hk) noM_ok ?_) | (with_reducible refine wa ?_; refine And.intro ?_ ?_; (focus kernel_rfl)))
          exact ⟨rfl, Back.keep [152, 21, 19, 17] (by simp only [go_sem])⟩
      · have k2 : (x1 == 5) = false := by simpa using d1
        repeat (first | (with_reducible (first | apply wA | apply wB | apply wC | apply wD | apply wE | apply wF | apply wG | apply wH | apply wI | apply wJ | apply wK | apply wL | apply wM | apply wN | apply wO | apply wP | apply wQ rfl | apply wR | apply wS | apply wT | apply wU)) | ((with_reducible (first | apply wV | apply wW | apply wX | (apply wY [] hTT (cfMm2_ok hk) noM_ok mixed; (focus kernel_rfl)))); (focus (simp only [Tryz.f10, k1, k2, k5, go_sem]; with_reducible rfl))) | (with_reducible refine wZ hTT (cfMm2_ok hk) noM_ok ?_) | (with_reducible refine wa ?_; refine And.intro ?_ ?_; (focus kernel_rfl)))
        exact ⟨rfl, Back.keep [152, 21, 19, 17] (by simp only [go_sem])⟩
    · have k5 : ¬ (n : Int) ≤ 2 := by omega
      repeat (first | (with_reducible (first | apply wA | apply wB | apply wC | apply wD | apply wE | apply wF | apply wG | apply wH | apply wI | apply wJ | apply wK | apply wL | apply wM | apply wN | apply wO | apply wP | apply wQ rfl | apply wR | apply wS | apply wT | apply wU)) | ((with_reducible (first | apply wV | apply wW | apply wX | (apply wY [] hTT (cfMm2_ok hk) noM_ok mixed; (focus kernel_rfl)))); (focus (simp only [Tryz.f10, k1, k5, go_sem]; with_reducible rfl))) | (with_reducible refine wZ hTT (cfMm2_ok hk) noM_ok ?_) | (with_reducible refine wa ?_; refine And.intro ?_ ?_; (focus kernel_rfl)))
      exact ⟨rfl, Back.keep [152, 21, 19, 17] (by simp only [go_sem])⟩
  by_cases d1 : x1 = 0
  · have k1 : (x1 != 0) = false := by simpa using d1
    by_cases d2 : x2 = 0
    · have k2 : (x2 != 0) = false := by simpa using d2
      have k3 : (x3 == 0) = true := by simpa using q5 d1 d2
      repeat (first | (with_reducible (first | apply wA | apply wB | apply wC | apply wD | apply wE | apply wF | apply wG | apply wH | apply wI | apply wJ | apply wK | apply wL | apply wM | apply wN | apply wO | apply wP | apply wQ rfl | apply wR | apply wS | apply wT | apply wU)) | ((with_reducible (first | apply wV | apply wW | apply wX | (apply wY [] hTT (cfMm2_ok hk) noM_ok mixed; (focus kernel_rfl)))); (focus (simp only [Tryz.f10, cfMm2, c29, k1, k2, k3, go_sem]; with_reducible rfl))) | (with_reducible refine wZ hTT (cfMm2_ok hk) noM_ok ?_) | (with_reducible refine wa ?_; refine And.intro ?_ ?_; (focus kernel_rfl)))
      exact ⟨rfl, rfl, _, rfl, rfl⟩
    · have k2 : (x2 != 0) = true := by simpa using d2
      repeat (first | (with_reducible (first | apply wA | apply wB | apply wC | apply wD | apply wE | apply wF | apply wG | apply wH | apply wI | apply wJ | apply wK | apply wL | apply wM | apply wN | apply wO | apply wP | apply wQ rfl | apply wR | apply wS | apply wT | apply wU)) | ((with_reducible (first | apply wV | apply wW | apply wX | (apply wY [] hTT (cfMm2_ok hk) noM_ok mixed; (focus kernel_rfl)))); (focus (simp only [Tryz.f10, cfMm2, c29, k1, k2, go_sem]; with_reducible rfl))) | (with_reducible refine wZ hTT (cfMm2_ok hk) noM_ok ?_) | (with_reducible refine wa ?_; refine And.intro ?_ ?_; (focus kernel_rfl)))
      exact ⟨rfl, rfl, _, rfl, rfl⟩
  · have k1 : (x1 != 0) = true := by simpa using d1
    repeat (first | (with_reducible (first | apply wA | apply wB | apply wC | apply wD | apply wE | apply wF | apply wG | apply wH | apply wI | apply wJ | apply wK | apply wL | apply wM | apply wN | apply wO | apply wP | apply wQ rfl | apply wR | apply wS | apply wT | apply wU)) | ((with_reducible (first | apply wV | apply wW | apply wX | (apply wY [] hTT (cfMm2_ok hk) noM_ok mixed; (focus kernel_rfl)))); (focus (simp only [Tryz.f10, cfMm2, c29, k1, go_sem]; with_reducible rfl))) | (with_reducible refine wZ hTT (cfMm2_ok hk) noM_ok ?_) | (with_reducible refine wa ?_; refine And.intro ?_ ?_; (focus kernel_rfl)))
    exact ⟨rfl, rfl, _, rfl, rfl⟩
end Go.Pv
