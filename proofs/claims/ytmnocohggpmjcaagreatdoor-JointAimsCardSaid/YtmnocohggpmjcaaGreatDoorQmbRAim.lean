/- Contracts: the nearest pose with an end at a place, the reference's; the law JointAims. -/
import Derived.Test.YtmnocohggpmjcaaGreatDoorQmbAim
import Derived.Test.YtmnocohggpmjcaaGreatDoorQyFar
import Derived.Test.YtmnocohggpmjcaaGreatDoorQtA
import Derived.Test.YtmnocohggpmjcaaGreatDoorQgEnds
set_option linter.all false
namespace Go.Pv
open Go Go.RowKit Go.Proofs
set_option maxRecDepth 200000
set_option maxHeartbeats 8000000
def outO : Option Am → PV
  | none => .sl .n []
  | some x => pvA x.1
def outN : Option Am → Int
  | none => -1
  | some x => x.2
def raimR (o : Option Am) : PV := .tuple [outO o, ii (outN o)]
def cfMh : CallF := cfAdd (cfAdd (cfAdd cf0 102 c102) 92 c92) 69 c87
theorem cfMh_ok : CallFOk Tryz.prog cfMh := cfAdd_ok (cfAdd_ok (cfAdd_ok cf0_ok c102_ok) c92_ok) c69_ok
theorem RAim_48 (s : Int) (z zh zr za : Z) (ls : List Lb) (g : Stg) (a : List Int) (n : Int) (p : Pl) (hzo : zOk z (ls.map encLb) = true) (hh : zOk zh (g.hs.map encFld) = true) (hr : zOk zr (g.rs.map ii) = true) (ha : zOk za (a.map ii) = true)
    (hf : figB s ls = true) (hg : stgG ls g = true) (hpa : poseG ls a = true) (hn : limbG ls n = true) :
    CallOk Tryz.prog 48 [.agg [ii s, .sl z (ls.map encLb)], encStg zh zr g, .sl za (a.map ii), ii n, .agg [ii p.1, ii p.2]] [] (.ret (raimR (aimG s ls g a n p))) [] := by
  refine CallOk.ofF hTT Tryz.func48 rfl rfl ?_
  have hd := decFig_enc s z ls hzo
  have hd2 := decStg_enc hh hr
  have hd3 := decIs1_enc ha
  have hl := fig_len hf
  have hli := limb_in hn
  have h0l := hli.1
  have h1l := hli.2
  have hpl := poses_len hf
  have hbd := fun l => dG_bd (s := s) (ls := ls) (g := g) (f := a) l
  have hPm : ∀ l ∈ posesG ls, poseG ls l = true := fun l h => mem_poses.1 h
  unfold raimR aimG
  unfold encStg at hd2 ⊢
  repeat (first | (with_reducible (first | apply wA | ((fail_if_success (refine RunQ.seq (x := .region 2 _ _) ?_)); (apply wB)) | apply wC | apply wD | apply wE | apply wF | apply wG | apply wH | apply wI | apply wJ | apply wK | apply wL | apply wM | apply wN | apply wO | apply wP | apply wQ rfl | apply wR | apply wS | apply wT | apply wU)) | ((with_reducible (first | apply wV | apply wW | apply wX | (apply wY [] hTT cfMh_ok noM_ok mixed; (focus kernel_rfl)))); (focus (simp only [Tryz.f48, cfMh, c102, hd, hd2, hd3, hf, hg, hpa, and_self, if_true, go_sem]; with_reducible rfl))) | ((fail_if_success (with_reducible show RunQ _ (.region 2 _ _) _ _)); (with_reducible refine wZ hTT cfMh_ok noM_ok ?_)) | (with_reducible refine wa ?_; refine And.intro ?_ ?_; (focus kernel_rfl)))
  refine RunQ.keep [12, 9, 5, 3] (by simp only [go_sem]; rfl) ?_
  repeat (first | (with_reducible (first | apply wA | apply wB | apply wC | apply wD | apply wE | apply wF | apply wG | apply wH | apply wI | apply wJ | apply wK | apply wL | apply wM | apply wN | apply wO | apply wP | apply wQ rfl | apply wR | apply wS | apply wT | apply wU)) | ((with_reducible (first | apply wV | apply wW | apply wX | (apply wY [] hTT cfMh_ok noM_ok mixed; (focus kernel_rfl)))); (focus (simp only [Tryz.f48, cfMh, c92, hd, hf, go_sem]; with_reducible rfl))) | (with_reducible refine wZ hTT cfMh_ok noM_ok ?_) | (with_reducible refine wa ?_; refine And.intro ?_ ?_; (focus kernel_rfl)))
  refine RunQ.keep [16, 15, 14, 13, 12, 9, 5, 3] (by simp only [go_sem]; rfl) ?_
  have hfl : ∀ Q, farL ls Q = (posesG ls).map (dI Q) := fun Q => rfl
  rw [hfl]
  generalize awayG s ls g a = Q at *
  generalize posesG ls = P at *
  refine RunQ.loop (fun i s' => s' = ⟨[(16, ii i), (15, ii (outN (bestF (lstG Q (endAt s ls n p) (P.take i))))), (14, outO (bestF (lstG Q (endAt s ls n p) (P.take i)))), (13, .sl .a (P.map pvL)), (12, .sl .a ((P.map (dI Q)).map ii)), (9, .bp 2 0), (5, .bp 0 0), (3, ii n)], 69,
      [.var [ii s, .sl z (ls.map encLb)] false, .var [ii g.e.a, ii g.e.b, ii g.e.c, ii g.e.d, .sl zh (g.hs.map encFld), .sl zr (g.rs.map ii)] false, .var [ii p.1, ii p.2] false]⟩) P.length rfl ?_
  rintro i _ hi rfl
  have lI : ∀ m (l : List Int), ltBL m (l.map ii) = true := fun m l => ltBL_of_closed m _ (closedL_is l)
  have lO : ∀ m (o : Option Am), (outO o).ltB m = true := fun m o => ltB_of_closed m _ (by cases o with
    | none => rfl
    | some x => exact closedL_is x.1)
  by_cases hlt : i < P.length
  · obtain ⟨l, hx⟩ : ∃ l, P[i]? = some l := ⟨_, List.getElem?_eq_getElem hlt⟩
    have hpp : poseG ls l = true := hPm l (List.mem_of_getElem? hx)
    have hll := (pose_at hpp).1
    have hpv : pvL l = pvA l := by
      unfold pvL
      cases l with
      | nil => simp at hll; omega
      | cons a r => rfl
    have hx' : (P.map pvL)[i]? = some (.sl .a (l.map ii)) := by rw [List.getElem?_map, hx, Option.map_some, hpv]
    have hy' : ((P.map (dI Q)).map ii)[i]? = some (ii (dI Q l)) := by rw [List.getElem?_map, List.getElem?_map, hx]; rfl
    have hdl1 : decIs1 (.sl .a (l.map ii)) = some l := decIs1_enc (by cases l <;> rfl)
    have g0 := ends_get (s := s) hf hpp hli
    have g0' : ((ends s ls l).map encPl)[n.toNat]? = some (.agg [ii (endG1 s ls n l).1, ii (endG1 s ls n l).2]) := by rw [List.getElem?_map, g0]; rfl
    have hel : (ends s ls l).length = ls.length := ends_ln hf hpp
    have hlt' : (i : Int) < P.length := by omega
    have e4 : IntKind.i64.wrap ((i : Int) + 1) = ((i + 1 : Nat) : Int) := wrap_id (by omega) (by omega)
    have hst := lst_snoc (Q := Q) (P := endAt s ls n p) hx
    have hmem : ∀ y, bestF (lstG Q (endAt s ls n p) (P.take i)) = some y → 0 ≤ y.2 := by
      intro y hy
      have h1 : y ∈ lstG Q (endAt s ls n p) (P.take i) := by
        have hm : ∀ (L : List Am) (y : Am), bestF L = some y → y ∈ L := by
          intro L
          induction hn : L.length generalizing L with
          | zero => intro y h; obtain rfl := List.length_eq_zero_iff.1 hn; cases h
          | succ n ih =>
            intro y h
            have hne : L ≠ [] := fun e => by rw [e] at hn; cases hn
            obtain ⟨L', w, rfl⟩ : ∃ L' w, L = L' ++ [w] := ⟨L.dropLast, L.getLast hne, (List.dropLast_concat_getLast hne).symm⟩
            rw [bestF_snoc] at h
            cases hb : bestF L' with
            | none =>
              rw [hb] at h
              have h : w = y := by simpa [betG] using h
              subst h
              simp
            | some v =>
              rw [hb] at h
              have h : betG (some v) w = y := by simpa using h
              unfold betG at h
              dsimp only at h
              split at h <;> subst h
              · simp
              · exact List.mem_append_left _ (ih L' (by simpa using hn) v hb)
        exact hm _ y hy
      rw [(lst_mem.1 h1).2.2.2]
      exact (hbd y.1).1
    have hea : endAt s ls n p l = decide (endG1 s ls n l = p) := rfl
    rw [hea] at hst
    generalize endG1 s ls n l = q at g0' hst
    have hng := dI_neg (Q := Q) (q := l)
    cases hk : hasK Q l
    · rw [hk] at hng
      have hneg : ¬ (0 : Int) ≤ dI Q l := by have := of_decide_eq_true hng; omega
      rw [hk, Bool.false_and, if_neg (by simp)] at hst
      repeat (first | (with_reducible (first | apply wA | apply wB | apply wC | apply wD | apply wE | apply wF | apply wG | apply wH | apply wI | apply wJ | apply wK | apply wL | apply wM | apply wN | apply wO | apply wP | apply wQ rfl | apply wR | apply wS | apply wT | apply wU)) | ((with_reducible (first | apply wV | apply wW | apply wX | (apply wY [] hTT cfMh_ok noM_ok mixed; (focus kernel_rfl)))); (focus (simp only [Tryz.f48, hlt', hx', hy', hneg, e4, ge_iff_le, List.length_map, go_sem]; with_reducible rfl))) | (with_reducible refine wZ hTT cfMh_ok noM_ok ?_) | (with_reducible refine wa ?_; refine And.intro ?_ ?_; (focus kernel_rfl)))
      refine roundQ.t 3 [16, 15, 14, 13, 12, 9, 5, 3] hlt (by simp only [lI, lO, ltB_is, ltB_isl, ltB_lbs, ltB_flds, ltB_pv, ltB_sl, go_sem]) (by rw [hst]; simp only [go_sem])
    have hdI := dI_dG hk
    have hnn := (hbd l).1
    rw [hdI] at hy'
    rw [hk, Bool.true_and] at hst
    by_cases hqp : q = p
    case neg =>
      have hq1 : (q.1 == p.1 && q.2 == p.2) = false := by
        rw [Bool.eq_false_iff]
        intro h
        simp at h
        exact hqp (Prod.ext h.1 h.2)
      rw [if_neg (by simpa using hqp)] at hst
      repeat (first | (with_reducible (first | apply wA | apply wB | apply wC | apply wD | apply wE | apply wF | apply wG | apply wH | apply wI | apply wJ | apply wK | apply wL | apply wM | apply wN | apply wO | apply wP | apply wQ rfl | apply wR | apply wS | apply wT | apply wU)) | ((with_reducible (first | apply wV | apply wW | apply wX | (apply wY [] hTT cfMh_ok noM_ok mixed; (focus kernel_rfl)))); (focus (simp only [Tryz.f48, cfMh, c87, hd, hdl1, closedL_lbs, closedL_is, hf, hpp, g0', h0l, h1l, hel, hq1, hlt', hx', hy', hnn, e4, ge_iff_le, List.length_map, go_sem]; with_reducible rfl))) | (with_reducible refine wZ hTT cfMh_ok noM_ok ?_) | (with_reducible refine wa ?_; refine And.intro ?_ ?_; (focus kernel_rfl)))
      refine roundQ.t 3 [16, 15, 14, 13, 12, 9, 5, 3] hlt (by simp only [lI, lO, ltB_is, ltB_isl, ltB_lbs, ltB_flds, ltB_pv, ltB_sl, go_sem]) (by rw [hst]; simp only [go_sem])
    have hq1 : (q.1 == p.1 && q.2 == p.2) = true := by subst hqp; simp
    rw [if_pos (by simpa using hqp)] at hst
    cases hb : bestF (lstG Q (endAt s ls n p) (P.take i)) with
    | none =>
      have hb2 : bestF (lstG Q (endAt s ls n p) (P.take (i + 1))) = some (l, dG Q l) := by rw [hst, bestF_snoc, hb]; rfl
      have e1 : outN none = -1 := rfl
      have e2 : outO none = .sl .n [] := rfl
      rw [e1, e2]
      repeat (first | (with_reducible (first | apply wA | apply wB | apply wC | apply wD | apply wE | apply wF | apply wG | apply wH | apply wI | apply wJ | apply wK | apply wL | apply wM | apply wN | apply wO | apply wP | apply wQ rfl | apply wR | apply wS | apply wT | apply wU)) | ((with_reducible (first | apply wV | apply wW | apply wX | (apply wY [] hTT cfMh_ok noM_ok mixed; (focus kernel_rfl)))); (focus (simp only [Tryz.f48, cfMh, c87, hd, hdl1, closedL_lbs, closedL_is, hf, hpp, g0', h0l, h1l, hel, hq1, hlt', hx', hy', hnn, e4, ge_iff_le, List.length_map, go_sem]; with_reducible rfl))) | (with_reducible refine wZ hTT cfMh_ok noM_ok ?_) | (with_reducible refine wa ?_; refine And.intro ?_ ?_; (focus kernel_rfl)))
      refine roundQ.t 3 [16, 15, 14, 13, 12, 9, 5, 3] hlt (by simp only [lI, lO, ltB_is, ltB_isl, ltB_lbs, ltB_flds, ltB_pv, ltB_sl, go_sem]) (by rw [hb2]; simp only [outN, outO, go_sem])
    | some y =>
      have hy0 : ¬ y.2 < 0 := by have := hmem y hb; omega
      have e1 : outN (some y) = y.2 := rfl
      have e2 : outO (some y) = pvA y.1 := rfl
      rw [e1, e2]
      by_cases hc : dG Q l < y.2
      · have hb2 : bestF (lstG Q (endAt s ls n p) (P.take (i + 1))) = some (l, dG Q l) := by rw [hst, bestF_snoc, hb]; unfold betG; dsimp only; rw [if_pos hc]
        repeat (first | (with_reducible (first | apply wA | apply wB | apply wC | apply wD | apply wE | apply wF | apply wG | apply wH | apply wI | apply wJ | apply wK | apply wL | apply wM | apply wN | apply wO | apply wP | apply wQ rfl | apply wR | apply wS | apply wT | apply wU)) | ((with_reducible (first | apply wV | apply wW | apply wX | (apply wY [] hTT cfMh_ok noM_ok mixed; (focus kernel_rfl)))); (focus (simp only [Tryz.f48, cfMh, c87, hd, hdl1, closedL_lbs, closedL_is, hf, hpp, g0', h0l, h1l, hel, hq1, hy0, hc, hlt', hx', hy', hnn, e4, ge_iff_le, List.length_map, go_sem]; with_reducible rfl))) | (with_reducible refine wZ hTT cfMh_ok noM_ok ?_) | (with_reducible refine wa ?_; refine And.intro ?_ ?_; (focus kernel_rfl)))
        refine roundQ.t 3 [16, 15, 14, 13, 12, 9, 5, 3] hlt (by simp only [lI, lO, ltB_is, ltB_isl, ltB_lbs, ltB_flds, ltB_pv, ltB_sl, go_sem]) (by rw [hb2]; simp only [outN, outO, go_sem])
      · have hb2 : bestF (lstG Q (endAt s ls n p) (P.take (i + 1))) = some y := by rw [hst, bestF_snoc, hb]; unfold betG; dsimp only; rw [if_neg hc]
        repeat (first | (with_reducible (first | apply wA | apply wB | apply wC | apply wD | apply wE | apply wF | apply wG | apply wH | apply wI | apply wJ | apply wK | apply wL | apply wM | apply wN | apply wO | apply wP | apply wQ rfl | apply wR | apply wS | apply wT | apply wU)) | ((with_reducible (first | apply wV | apply wW | apply wX | (apply wY [] hTT cfMh_ok noM_ok mixed; (focus kernel_rfl)))); (focus (simp only [Tryz.f48, cfMh, c87, hd, hdl1, closedL_lbs, closedL_is, hf, hpp, g0', h0l, h1l, hel, hq1, hy0, hc, hlt', hx', hy', hnn, e4, ge_iff_le, List.length_map, go_sem]; with_reducible rfl))) | (with_reducible refine wZ hTT cfMh_ok noM_ok ?_) | (with_reducible refine wa ?_; refine And.intro ?_ ?_; (focus kernel_rfl)))
        refine roundQ.t 3 [16, 15, 14, 13, 12, 9, 5, 3] hlt (by simp only [lI, lO, ltB_is, ltB_isl, ltB_lbs, ltB_flds, ltB_pv, ltB_sl, go_sem]) (by rw [hb2]; simp only [outN, outO, go_sem])
  · have hlt' : ¬ (i : Int) < P.length := by omega
    obtain rfl : i = P.length := by omega
    rw [List.take_length]
    have hco : ∀ (o : Option Am), closedL [outO o, ii (outN o)] = true := fun o => by cases o with
      | none => rfl
      | some x => simp [outO, closedL, PV.closed, closedL_is]
    generalize bestF (lstG Q (endAt s ls n p) P) = o
    obtain ⟨x, hx⟩ : ∃ x, outO o = x := ⟨_, rfl⟩
    have hc0 := hco o
    rw [hx] at hc0 ⊢
    repeat (first | (with_reducible (first | apply wA | apply wB | apply wC | apply wD | apply wE | apply wF | apply wG | apply wH | apply wI | apply wJ | apply wK | apply wL | apply wM | apply wN | apply wO | apply wP | apply wQ rfl | apply wR | apply wS | apply wT | apply wU)) | ((with_reducible (first | apply wV | apply wW | apply wX | (apply wY [] hTT cfMh_ok noM_ok mixed; (focus kernel_rfl)))); (focus (simp only [Tryz.f48, hlt', List.length_map, go_sem]; with_reducible rfl))) | (with_reducible refine wZ hTT cfMh_ok noM_ok ?_) | (with_reducible refine wa ?_; refine And.intro ?_ ?_; (focus kernel_rfl)))
    exact ⟨rfl, rfl, _, rfl, leave_closed hc0⟩
def c48 : List PV → List Box → Option (PRes × List Box)
  | [v, w, q, .int .i64 n, p], sg => match decFig v, decStg w, decIs1 q, decPl p with
    | some (s, ls), some g, some a, some p => if figB s ls = true ∧ stgG ls g = true ∧ poseG ls a = true ∧ limbG ls n = true then some (.ret (raimR (aimG s ls g a n p)), sg) else none
    | _, _, _, _ => none
  | _, _ => none
theorem c48_ok : ConOk Tryz.prog 48 c48 := ConOk.of0 (ent Tryz.func48 rfl) fun args sg r sg' h => by
  unfold c48 at h
  split at h <;> try (cases h; done)
  split at h <;> try (cases h; done)
  rename_i h1 h2 h3 h4
  split at h <;> cases h
  rename_i hc
  obtain ⟨z, rfl, hz⟩ := decFig_inv h1
  obtain ⟨zh, zr, rfl, hh, hr⟩ := decStg_inv h2
  obtain ⟨zp, rfl, hp⟩ := decIs1_inv h3
  obtain rfl := decPl_inv _ _ h4
  exact ⟨_, rfl, rfl, by rw [ltBL_cons, ltB_fig, ltBL_cons, ltB_stg, ltBL_cons, ltB_isl]; rfl, RAim_48 _ _ _ _ _ _ _ _ _ _ (zOk_n' hz) hh hr (zOk_n' hp) hc.1 hc.2.1 hc.2.2.1 hc.2.2.2⟩
def cfMh2 : CallF := cfAdd (cfAdd (cfAdd (cfAdd (cfAdd (cfAdd (cfAdd (cfAdd (cfAdd cf0 41 c41) 43 c43) 27 c86) 28 c88) 29 c29) 47 c47) 48 c48) 44 c44) 49 c49
theorem cfMh2_ok (hk : ConOk Tryz.prog 29 c29) : CallFOk Tryz.prog cfMh2 := cfAdd_ok (cfAdd_ok (cfAdd_ok (cfAdd_ok (cfAdd_ok (cfAdd_ok (cfAdd_ok (cfAdd_ok (cfAdd_ok cf0_ok c41_ok) c43_ok) c27_ok) c28_ok) hk) c47_ok) c48_ok) c44_ok) c49_ok
theorem aims_8 (hk : ConOk Tryz.prog 29 c29) (s : Int) (z zh zr za : Z) (ls : List Lb) (g : Stg) (a : List Int) (n : Int) (p : Pl) (hzo : zOk z (ls.map encLb) = true) (hh : zOk zh (g.hs.map encFld) = true) (hr : zOk zr (g.rs.map ii) = true) (ha : zOk za (a.map ii) = true) :
    CallOk Tryz.prog 8 [.agg [ii s, .sl z (ls.map encLb)], encStg zh zr g, .sl za (a.map ii), ii n, .agg [ii p.1, ii p.2]] [] (.ret (.bool true)) [] := by
  refine CallOk.of0 hTT Tryz.func8 rfl rfl ?_
  have hd := decFig_enc s z ls hzo
  have hd2 := decStg_enc hh hr
  have hd3 := decIs1_enc ha
  have hdp : decPl (.agg [ii p.1, ii p.2]) = some p := rfl
  unfold encStg at hd2 ⊢
  cases h0 : stagedG ls g
  · repeat (first | (with_reducible (first | apply wA | apply wB | apply wC | apply wD | apply wE | apply wF | apply wG | apply wH | apply wI | apply wJ | apply wK | apply wL | apply wM | apply wN | apply wO | apply wP | apply wQ rfl | apply wR | apply wS | apply wT | apply wU)) | ((with_reducible (first | apply wV | apply wW | apply wX | (apply wY [] hTT (cfMh2_ok hk) noM_ok mixed; (focus kernel_rfl)))); (focus (simp only [Tryz.f8, cfMh2, c41, c29, hd, hd2, h0, go_sem]; with_reducible rfl))) | (with_reducible refine wZ hTT (cfMh2_ok hk) noM_ok ?_) | (with_reducible refine wa ?_; refine And.intro ?_ ?_; (focus kernel_rfl)))
    exact ⟨rfl, rfl, _, rfl, rfl⟩
  by_cases h2 : (8 : Int) < a.length
  · repeat (first | (with_reducible (first | apply wA | apply wB | apply wC | apply wD | apply wE | apply wF | apply wG | apply wH | apply wI | apply wJ | apply wK | apply wL | apply wM | apply wN | apply wO | apply wP | apply wQ rfl | apply wR | apply wS | apply wT | apply wU)) | ((with_reducible (first | apply wV | apply wW | apply wX | (apply wY [] hTT (cfMh2_ok hk) noM_ok mixed; (focus kernel_rfl)))); (focus (simp only [Tryz.f8, cfMh2, c41, c29, hd, hd2, h0, h2, gt_iff_lt, go_sem]; with_reducible rfl))) | (with_reducible refine wZ hTT (cfMh2_ok hk) noM_ok ?_) | (with_reducible refine wa ?_; refine And.intro ?_ ?_; (focus kernel_rfl)))
    exact ⟨rfl, rfl, _, rfl, rfl⟩
  have e22 : ((2 : Int) == 2) = true := rfl
  have e77 : ((7 : Int) == 7) = true := rfl
  have e55 : ((5 : Int) == 5) = true := rfl
  have e00 : ((0 : Int) == 0) = true := rfl
  repeat (first | (with_reducible (first | apply wA | ((fail_if_success (refine RunQ.seq (x := .region 3 _ _) ?_)); (apply wB)) | apply wC | apply wD | apply wE | apply wF | apply wG | apply wH | apply wI | apply wJ | apply wK | apply wL | apply wM | apply wN | apply wO | apply wP | apply wQ rfl | apply wR | apply wS | apply wT | apply wU)) | ((with_reducible (first | apply wV | apply wW | apply wX | (apply wY [] hTT (cfMh2_ok hk) noM_ok mixed; (focus kernel_rfl)))); (focus (simp only [Tryz.f8, cfMh2, c41, c29, hd, hd2, h0, h2, gt_iff_lt, go_sem]; with_reducible rfl))) | ((fail_if_success (with_reducible show RunQ _ (.region 3 _ _) _ _)); (with_reducible refine wZ hTT (cfMh2_ok hk) noM_ok ?_)) | (with_reducible refine wa ?_; refine And.intro ?_ ?_; (focus kernel_rfl)))
  refine RunQ.keep [9, 6, 5, 2, 3] (by simp only [go_sem]; rfl) ?_
  by_cases h1 : figB s ls = true ∧ stgG ls g = true
  case neg =>
    have hR : aimR s ls g a n p = .tuple [.sl .n [], ii 0, ii 2] := by unfold aimR; rw [if_neg fun e => h1 ⟨e.1, e.2.1⟩]
    have hri : rightG s ls g = false := by
      unfold rightG
      rw [h0, Bool.true_and]
      cases a : figB s ls
      · rfl
      · cases b : stgG ls g
        · rfl
        · exact absurd ⟨a, b⟩ h1
    repeat (first | (with_reducible (first | apply wA | apply wB | apply wC | apply wD | apply wE | apply wF | apply wG | apply wH | apply wI | apply wJ | apply wK | apply wL | apply wM | apply wN | apply wO | apply wP | apply wQ rfl | apply wR | apply wS | apply wT | apply wU)) | ((with_reducible (first | apply wV | apply wW | apply wX | (apply wY [] hTT (cfMh2_ok hk) noM_ok mixed; (focus kernel_rfl)))); (focus (simp only [Tryz.f8, cfMh2, c29, c47, c43, hd, hd2, hd3, hdp, hR, hri, e22, e00, go_sem]; with_reducible rfl))) | (with_reducible refine wZ hTT (cfMh2_ok hk) noM_ok ?_) | (with_reducible refine wa ?_; refine And.intro ?_ ?_; (focus kernel_rfl)))
    exact ⟨rfl, rfl, _, rfl, rfl⟩
  have hri : rightG s ls g = true := by unfold rightG; rw [h0, h1.1, h1.2]; rfl
  have hf := h1.1
  have hg := h1.2
  have hl := fig_len hf
  have hs : ls.length ≤ 1000 := by omega
  have hsm : ls.length ≤ maxLen := by unfold maxLen; omega
  cases a2 : poseG ls a
  · have hR : aimR s ls g a n p = .tuple [.sl .n [], ii 0, ii 2] := by unfold aimR; rw [if_neg fun e => by rw [a2] at e; exact absurd e.2.2.1 (by simp)]
    repeat (first | (with_reducible (first | apply wA | apply wB | apply wC | apply wD | apply wE | apply wF | apply wG | apply wH | apply wI | apply wJ | apply wK | apply wL | apply wM | apply wN | apply wO | apply wP | apply wQ rfl | apply wR | apply wS | apply wT | apply wU)) | ((with_reducible (first | apply wV | apply wW | apply wX | (apply wY [] hTT (cfMh2_ok hk) noM_ok mixed; (focus kernel_rfl)))); (focus (simp only [Tryz.f8, cfMh2, c29, c47, c43, c86, hd, hd2, hd3, hdp, hs, hR, hri, a2, e22, e00, go_sem]; with_reducible rfl))) | (with_reducible refine wZ hTT (cfMh2_ok hk) noM_ok ?_) | (with_reducible refine wa ?_; refine And.intro ?_ ?_; (focus kernel_rfl)))
    exact ⟨rfl, rfl, _, rfl, rfl⟩
  cases a3 : limbG ls n
  · have hR : aimR s ls g a n p = .tuple [.sl .n [], ii 0, ii 2] := by unfold aimR; rw [if_neg fun e => by rw [a3] at e; exact absurd e.2.2.2 (by simp)]
    repeat (first | (with_reducible (first | apply wA | apply wB | apply wC | apply wD | apply wE | apply wF | apply wG | apply wH | apply wI | apply wJ | apply wK | apply wL | apply wM | apply wN | apply wO | apply wP | apply wQ rfl | apply wR | apply wS | apply wT | apply wU)) | ((with_reducible (first | apply wV | apply wW | apply wX | (apply wY [] hTT (cfMh2_ok hk) noM_ok mixed; (focus kernel_rfl)))); (focus (simp only [Tryz.f8, cfMh2, c29, c47, c43, c86, c88, hd, hd2, hd3, hdp, hs, hsm, hR, hri, a2, a3, e22, e00, go_sem]; with_reducible rfl))) | (with_reducible refine wZ hTT (cfMh2_ok hk) noM_ok ?_) | (with_reducible refine wa ?_; refine And.intro ?_ ?_; (focus kernel_rfl)))
    exact ⟨rfl, rfl, _, rfl, rfl⟩
  have hA : aimR s ls g a n p = if finG s ls g a = true then aimV (aimG s ls g a n p)
    else .tuple [.sl .n [], ii 0, ii 7] := by unfold aimR; rw [if_pos ⟨hf, hg, a2, a3⟩]
  cases a4 : finG s ls g a
  · rw [a4, if_neg (by simp)] at hA
    repeat (first | (with_reducible (first | apply wA | apply wB | apply wC | apply wD | apply wE | apply wF | apply wG | apply wH | apply wI | apply wJ | apply wK | apply wL | apply wM | apply wN | apply wO | apply wP | apply wQ rfl | apply wR | apply wS | apply wT | apply wU)) | ((with_reducible (first | apply wV | apply wW | apply wX | (apply wY [] hTT (cfMh2_ok hk) noM_ok mixed; (focus kernel_rfl)))); (focus (simp only [Tryz.f8, cfMh2, c29, c47, c43, c86, c88, c44, hd, hd2, hd3, hdp, hs, hsm, hA, hri, hf, hg, a2, a3, a4, e77, e00, and_self, if_true, go_sem]; with_reducible rfl))) | (with_reducible refine wZ hTT (cfMh2_ok hk) noM_ok ?_) | (with_reducible refine wa ?_; refine And.intro ?_ ?_; (focus kernel_rfl)))
    exact ⟨rfl, rfl, _, rfl, rfl⟩
  rw [a4, if_pos rfl] at hA
  cases hG : aimG s ls g a n p with
  | none =>
    rw [hG] at hA
    have hA : aimR s ls g a n p = .tuple [.sl .n [], ii 0, ii 5] := hA
    have hX : raimR (aimG s ls g a n p) = .tuple [.sl .n [], ii (-1)] := by rw [hG]; rfl
    repeat (first | (with_reducible (first | apply wA | apply wB | apply wC | apply wD | apply wE | apply wF | apply wG | apply wH | apply wI | apply wJ | apply wK | apply wL | apply wM | apply wN | apply wO | apply wP | apply wQ rfl | apply wR | apply wS | apply wT | apply wU)) | ((with_reducible (first | apply wV | apply wW | apply wX | (apply wY [] hTT (cfMh2_ok hk) noM_ok mixed; (focus kernel_rfl)))); (focus (simp only [Tryz.f8, cfMh2, c29, c47, c48, c43, c86, c88, c44, hd, hd2, hd3, hdp, hs, hsm, hA, hX, hri, hf, hg, a2, a3, a4, e55, e00, and_self, if_true, go_sem]; with_reducible rfl))) | (with_reducible refine wZ hTT (cfMh2_ok hk) noM_ok ?_) | (with_reducible refine wa ?_; refine And.intro ?_ ?_; (focus kernel_rfl)))
    exact ⟨rfl, rfl, _, rfl, rfl⟩
  | some x =>
    rw [hG] at hA
    have hA : aimR s ls g a n p = .tuple [pvA x.1, ii x.2, ii 0] := hA
    have hX : raimR (aimG s ls g a n p) = .tuple [pvA x.1, ii x.2] := by rw [hG]; rfl
    obtain ⟨x1, x2, _, x4, _⟩ := aim_some hG
    have hbd := dG_bd (s := s) (ls := ls) (g := g) (f := a) x.1
    have hx0 : ¬ x.2 < 0 := by omega
    have hdx : decIs1 (.sl .a (x.1.map ii)) = some x.1 := decIs1_enc (by cases x.1 <;> rfl)
    have hxl : x.1.length ≤ maxLen := by rw [(pose_at x1).1]; exact hsm
    have hxx : decide (x.1 = x.1) = true := by simp
    repeat (first | (with_reducible (first | apply wA | apply wB | apply wC | apply wD | apply wE | apply wF | apply wG | apply wH | apply wI | apply wJ | apply wK | apply wL | apply wM | apply wN | apply wO | apply wP | apply wQ rfl | apply wR | apply wS | apply wT | apply wU)) | ((with_reducible (first | apply wV | apply wW | apply wX | (apply wY [] hTT (cfMh2_ok hk) noM_ok mixed; (focus kernel_rfl)))); (focus (simp only [Tryz.f8, cfMh2, c29, c47, c48, c43, c86, c88, c44, c49, hd, hd2, hd3, hdp, hs, hsm, hA, hX, hri, hf, hg, a2, a3, a4, e00, hx0, hdx, hxl, hxx, beq_self_eq_true, and_self, if_true, go_sem]; with_reducible rfl))) | (with_reducible refine wZ hTT (cfMh2_ok hk) noM_ok ?_) | (with_reducible refine wa ?_; refine And.intro ?_ ?_; (focus kernel_rfl)))
    exact ⟨rfl, rfl, _, rfl, rfl⟩
end Go.Pv
