/- Contracts: poses alike; the reference's fine poses. -/
import Derived.Test.YtmnocohggpmjcaaGreatDoorQoFine
import Derived.Test.YtmnocohggpmjcaaGreatDoorQqREnds
set_option linter.all false
namespace Go.Pv
open Go Go.RowKit Go.Proofs
set_option maxRecDepth 10000
set_option maxHeartbeats 4000000
def cfV : CallF := cfAdd (cfAdd cf0 69 c87) 32 c143
theorem cfV_ok : CallFOk Tryz.prog cfV := cfAdd_ok (cfAdd_ok cf0_ok c69_ok) c32_ok
theorem Fine_44 (s : Int) (z zh zr zp : Z) (ls : List Lb) (g : Stg) (ps : List Int) (hzo : zOk z (ls.map encLb) = true) (hh : zOk zh (g.hs.map encFld) = true) (hr : zOk zr (g.rs.map ii) = true) (hzp : zOk zp (ps.map ii) = true) (hf : figB s ls = true) (hg : stgG ls g = true) (hpo : poseG ls ps = true) :
    CallOk Tryz.prog 44 [.agg [ii s, .sl z (ls.map encLb)], encStg zh zr g, .sl zp (ps.map ii)] [] (.ret (.bool (finG s ls g ps))) [] := by
  refine CallOk.of0 hTT Tryz.func44 rfl rfl ?_
  have hd := decFig_enc s z ls hzo
  have hd3 := decIs1_enc hzp
  have hl := fig_len hf
  obtain ⟨f0, f1, r0, r1, H⟩ := stgIn (s := s) hg
  have hzh : zh ≠ .n := fun e => by subst e; rw [H.hs] at hh; cases hh
  have hzr : zr ≠ .n := fun e => by subst e; rw [H.rs] at hr; cases hr
  have hm0 := H.l0.1
  have hm1 := H.l1.1
  have g0 := ends_get hf hpo H.l0
  have g1 := ends_get hf hpo H.l1
  rw [finG_in H]
  unfold encStg
  rw [H.hs, H.rs]
  simp only [List.map_cons, List.map_nil]
  unfold encFld
  have hel := ends_ln hf hpo
  have hlt0 : r0 < (ends s ls ps).length := by have := H.l0.2; omega
  have hlt1 : r1 < (ends s ls ps).length := by have := H.l1.2; omega
  have hoo : ends s ls ps ≠ [] := fun e => by rw [e] at hel; simp at hel; omega
  generalize hp0 : (ends s ls ps).getD r0.toNat (0, 0) = p0 at g0 ⊢
  generalize hp1 : (ends s ls ps).getD r1.toNat (0, 0) = p1 at g1 ⊢
  repeat (first | (with_reducible (first | apply wA | apply wB | apply wC | apply wD | apply wE | apply wF | apply wG | apply wH | apply wI | apply wJ | apply wK | apply wL | apply wM | apply wN | apply wO | apply wP | apply wQ rfl | apply wR | apply wS | apply wT | apply wU)) | ((with_reducible (first | apply wV | apply wW | apply wX | (apply wY [] hTT cfV_ok noM_ok mixed; (focus kernel_rfl)))); (focus (simp only [Tryz.f44, cfV, c87, hd, hd3, hf, hpo, go_sem]; with_reducible rfl))) | (with_reducible refine wZ hTT cfV_ok noM_ok ?_) | (with_reducible refine wa ?_; refine And.intro ?_ ?_; (focus kernel_rfl)))
  unfold fineG
  generalize hO : ends s ls ps = O at *
  refine RunQ.keep [8, 7, 6, 4] (by simp only [go_sem]; rfl) ?_
  obtain ⟨e, hs', rs'⟩ := g
  have hde : (⟨e.a, e.b, e.c, e.d⟩ : Fld) = e := rfl
  have hdf : decFld (.agg [ii e.a, ii e.b, ii e.c, ii e.d]) = some e := rfl
  have hdf0 : decFld (.agg [ii f0.a, ii f0.b, ii f0.c, ii f0.d]) = some f0 := rfl
  have hdf1 : decFld (.agg [ii f1.a, ii f1.b, ii f1.c, ii f1.d]) = some f1 := rfl
  have hdp : ∀ p : Pl, decPl (.agg [ii p.1, ii p.2]) = some p := fun p => rfl
  refine RunQ.loop (fun i s' => O.all (fun p => lieG p e) = (O.drop i).all (fun p => lieG p e) ∧ s' = ⟨[(8, ii i), (7, .sl .a (O.map encPl)), (6, .bool false), (4, .bp 1 0)], 72, [.var [ii s, .sl z (ls.map encLb)] false, .var [ii e.a, ii e.b, ii e.c, ii e.d, .sl zh [.agg [ii f0.a, ii f0.b, ii f0.c, ii f0.d], .agg [ii f1.a, ii f1.b, ii f1.c, ii f1.d]], .sl zr [ii r0, ii r1]] false]⟩) O.length ⟨rfl, rfl⟩ ?_
  rintro i _ hi ⟨hm, rfl⟩
  by_cases hlt : i < O.length
  · obtain ⟨p, hp⟩ : ∃ p, O[i]? = some p := ⟨_, List.getElem?_eq_getElem hlt⟩
    have hp' : (O.map encPl)[i]? = some (.agg [ii p.1, ii p.2]) := map_get hp
    have hlt' : (i : Int) < O.length := by omega
    have e4 : IntKind.i64.wrap ((i : Int) + 1) = ((i + 1 : Nat) : Int) := wrap_id (by omega) (by omega)
    rw [drop_get hp, List.all_cons] at hm
    cases hlie : lieG p e
    · rw [hlie] at hm
      repeat (first | (with_reducible (first | apply wA | apply wB | apply wC | apply wD | apply wE | apply wF | apply wG | apply wH | apply wI | apply wJ | apply wK | apply wL | apply wM | apply wN | apply wO | apply wP | apply wQ rfl | apply wR | apply wS | apply wT | apply wU)) | ((with_reducible (first | apply wV | apply wW | apply wX | (apply wY [] hTT cfV_ok noM_ok mixed; (focus kernel_rfl)))); (focus (simp only [Tryz.f44, cfV, c143, hdp, hdf, hlie, hp', hlt', e4, go_sem]; with_reducible rfl))) | (with_reducible refine wZ hTT cfV_ok noM_ok ?_) | (with_reducible refine wa ?_; refine And.intro ?_ ?_; (focus kernel_rfl)))
      exact ⟨rfl, rfl, _, rfl, by rw [hm]; rfl⟩
    · rw [hlie, Bool.true_and] at hm
      repeat (first | (with_reducible (first | apply wA | apply wB | apply wC | apply wD | apply wE | apply wF | apply wG | apply wH | apply wI | apply wJ | apply wK | apply wL | apply wM | apply wN | apply wO | apply wP | apply wQ rfl | apply wR | apply wS | apply wT | apply wU)) | ((with_reducible (first | apply wV | apply wW | apply wX | (apply wY [] hTT cfV_ok noM_ok mixed; (focus kernel_rfl)))); (focus (simp only [Tryz.f44, cfV, c143, hdp, hdf, hlie, hp', hlt', e4, go_sem]; with_reducible rfl))) | (with_reducible refine wZ hTT cfV_ok noM_ok ?_) | (with_reducible refine wa ?_; refine And.intro ?_ ?_; (focus kernel_rfl)))
      refine roundQ.t 2 [8, 7, 6, 4] hlt (by simp only [ltB_pls, ltB_lbs, ltB_int, ltB_sl, ltB_agg, ltBL_cons, ltBL_nil, go_sem]) ⟨hm, by simp only [go_sem]⟩
  · have hlt' : ¬ (i : Int) < O.length := by omega
    have hall : O.all (fun p => lieG p e) = true := by rw [hm, List.drop_eq_nil_of_le (by omega)]; rfl
    have q0' : (O.map encPl)[r0.toNat]? = some (.agg [ii p0.1, ii p0.2]) := map_get g0
    have q1' : (O.map encPl)[r1.toNat]? = some (.agg [ii p1.1, ii p1.2]) := map_get g1
    show RunQ _ _ _ _
    repeat (first | (with_reducible (first | apply wA | ((fail_if_success (refine RunQ.seq (x := .region 8 _ _) ?_)); (apply wB)) | apply wC | apply wD | apply wE | apply wF | apply wG | apply wH | apply wI | apply wJ | apply wK | apply wL | apply wM | apply wN | apply wO | apply wP | apply wQ rfl | apply wR | apply wS | apply wT | apply wU)) | ((with_reducible (first | apply wV | apply wW | apply wX | (apply wY [] hTT cfV_ok noM_ok mixed; (focus kernel_rfl)))); (focus (simp only [Tryz.f44, cfV, hlt', hzh, hzr, q0', q1', hm0, hm1, hlt0, hlt1, go_sem]; with_reducible rfl))) | ((fail_if_success (with_reducible show RunQ _ (.region 8 _ _) _ _)); (with_reducible refine wZ hTT cfV_ok noM_ok ?_)) | (with_reducible refine wa ?_; refine And.intro ?_ ?_; (focus kernel_rfl)))
    rw [hall, Bool.true_and]
    cases a1 : lieG p0 f0
    · cases a3 : lieG p0 f1
      · repeat (first | (with_reducible (first | apply wA | apply wB | apply wC | apply wD | apply wE | apply wF | apply wG | apply wH | apply wI | apply wJ | apply wK | apply wL | apply wM | apply wN | apply wO | apply wP | apply wQ rfl | apply wR | apply wS | apply wT | apply wU)) | ((with_reducible (first | apply wV | apply wW | apply wX | (apply wY [] hTT cfV_ok noM_ok mixed; (focus kernel_rfl)))); (focus (simp only [Tryz.f44, cfV, c143, hdp, hdf0, hdf1, a1, a3, hzh, go_sem]; with_reducible rfl))) | (with_reducible refine wZ hTT cfV_ok noM_ok ?_) | (with_reducible refine wa ?_; refine And.intro ?_ ?_; (focus kernel_rfl)))
        exact ⟨rfl, rfl, _, rfl, rfl⟩
      · cases a4 : lieG p1 f0
        · repeat (first | (with_reducible (first | apply wA | apply wB | apply wC | apply wD | apply wE | apply wF | apply wG | apply wH | apply wI | apply wJ | apply wK | apply wL | apply wM | apply wN | apply wO | apply wP | apply wQ rfl | apply wR | apply wS | apply wT | apply wU)) | ((with_reducible (first | apply wV | apply wW | apply wX | (apply wY [] hTT cfV_ok noM_ok mixed; (focus kernel_rfl)))); (focus (simp only [Tryz.f44, cfV, c143, hdp, hdf0, hdf1, a1, a3, a4, hzh, go_sem]; with_reducible rfl))) | (with_reducible refine wZ hTT cfV_ok noM_ok ?_) | (with_reducible refine wa ?_; refine And.intro ?_ ?_; (focus kernel_rfl)))
          exact ⟨rfl, rfl, _, rfl, rfl⟩
        · repeat (first | (with_reducible (first | apply wA | apply wB | apply wC | apply wD | apply wE | apply wF | apply wG | apply wH | apply wI | apply wJ | apply wK | apply wL | apply wM | apply wN | apply wO | apply wP | apply wQ rfl | apply wR | apply wS | apply wT | apply wU)) | ((with_reducible (first | apply wV | apply wW | apply wX | (apply wY [] hTT cfV_ok noM_ok mixed; (focus kernel_rfl)))); (focus (simp only [Tryz.f44, cfV, c143, hdp, hdf0, hdf1, a1, a3, a4, hzh, go_sem]; with_reducible rfl))) | (with_reducible refine wZ hTT cfV_ok noM_ok ?_) | (with_reducible refine wa ?_; refine And.intro ?_ ?_; (focus kernel_rfl)))
          exact ⟨rfl, rfl, _, rfl, rfl⟩
    · cases a2 : lieG p1 f1
      · cases a3 : lieG p0 f1
        · repeat (first | (with_reducible (first | apply wA | apply wB | apply wC | apply wD | apply wE | apply wF | apply wG | apply wH | apply wI | apply wJ | apply wK | apply wL | apply wM | apply wN | apply wO | apply wP | apply wQ rfl | apply wR | apply wS | apply wT | apply wU)) | ((with_reducible (first | apply wV | apply wW | apply wX | (apply wY [] hTT cfV_ok noM_ok mixed; (focus kernel_rfl)))); (focus (simp only [Tryz.f44, cfV, c143, hdp, hdf0, hdf1, a1, a2, a3, hzh, go_sem]; with_reducible rfl))) | (with_reducible refine wZ hTT cfV_ok noM_ok ?_) | (with_reducible refine wa ?_; refine And.intro ?_ ?_; (focus kernel_rfl)))
          exact ⟨rfl, rfl, _, rfl, rfl⟩
        · cases a4 : lieG p1 f0
          · repeat (first | (with_reducible (first | apply wA | apply wB | apply wC | apply wD | apply wE | apply wF | apply wG | apply wH | apply wI | apply wJ | apply wK | apply wL | apply wM | apply wN | apply wO | apply wP | apply wQ rfl | apply wR | apply wS | apply wT | apply wU)) | ((with_reducible (first | apply wV | apply wW | apply wX | (apply wY [] hTT cfV_ok noM_ok mixed; (focus kernel_rfl)))); (focus (simp only [Tryz.f44, cfV, c143, hdp, hdf0, hdf1, a1, a2, a3, a4, hzh, go_sem]; with_reducible rfl))) | (with_reducible refine wZ hTT cfV_ok noM_ok ?_) | (with_reducible refine wa ?_; refine And.intro ?_ ?_; (focus kernel_rfl)))
            exact ⟨rfl, rfl, _, rfl, rfl⟩
          · repeat (first | (with_reducible (first | apply wA | apply wB | apply wC | apply wD | apply wE | apply wF | apply wG | apply wH | apply wI | apply wJ | apply wK | apply wL | apply wM | apply wN | apply wO | apply wP | apply wQ rfl | apply wR | apply wS | apply wT | apply wU)) | ((with_reducible (first | apply wV | apply wW | apply wX | (apply wY [] hTT cfV_ok noM_ok mixed; (focus kernel_rfl)))); (focus (simp only [Tryz.f44, cfV, c143, hdp, hdf0, hdf1, a1, a2, a3, a4, hzh, go_sem]; with_reducible rfl))) | (with_reducible refine wZ hTT cfV_ok noM_ok ?_) | (with_reducible refine wa ?_; refine And.intro ?_ ?_; (focus kernel_rfl)))
            exact ⟨rfl, rfl, _, rfl, rfl⟩
      · repeat (first | (with_reducible (first | apply wA | apply wB | apply wC | apply wD | apply wE | apply wF | apply wG | apply wH | apply wI | apply wJ | apply wK | apply wL | apply wM | apply wN | apply wO | apply wP | apply wQ rfl | apply wR | apply wS | apply wT | apply wU)) | ((with_reducible (first | apply wV | apply wW | apply wX | (apply wY [] hTT cfV_ok noM_ok mixed; (focus kernel_rfl)))); (focus (simp only [Tryz.f44, cfV, c143, hdp, hdf0, hdf1, a1, a2, hzh, go_sem]; with_reducible rfl))) | (with_reducible refine wZ hTT cfV_ok noM_ok ?_) | (with_reducible refine wa ?_; refine And.intro ?_ ?_; (focus kernel_rfl)))
        exact ⟨rfl, rfl, _, rfl, rfl⟩
end Go.Pv
