/- Contracts: whether a pose surely is held, and a proof: the reference's. -/
import Derived.Test.YtmnocohggpmjcaaGreatDoorQuProof
import Derived.Test.YtmnocohggpmjcaaGreatDoorQkBase
import Derived.Test.YtmnocohggpmjcaaGreatDoorQtA
set_option linter.all false
namespace Go.Pv
open Go Go.RowKit Go.Proofs
set_option maxRecDepth 10000
set_option maxHeartbeats 4000000

def cfWf : CallF := cfAdd (cfAdd cf0 110 c110) 44 c44
theorem cfWf_ok : CallFOk Tryz.prog cfWf := cfAdd_ok (cfAdd_ok cf0_ok c110_ok) c44_ok
theorem RProof_58 (s : Int) (z zh zr zp : Z) (ls : List Lb) (g : Stg) (ps : List Int) (hzo : zOk z (ls.map encLb) = true) (hh : zOk zh (g.hs.map encFld) = true) (hr : zOk zr (g.rs.map ii) = true) (hzp : zOk zp (ps.map ii) = true) (hf : figB s ls = true) (hg : stgG ls g = true) (hp : poseG ls ps = true) :
    CallOk Tryz.prog 58 [.agg [ii s, .sl z (ls.map encLb)], encStg zh zr g, .sl zp (ps.map ii)] [] (.ret (proofX s ls g ps)) [] := by
  refine CallOk.ofF hTT Tryz.func58 rfl rfl ?_
  have hd := decFig_enc s z ls hzo
  have hd2 := decStg_enc hh hr
  have hd0 := decIs1_enc hzp
  unfold encStg at hd2 ⊢
  have hTl := truths_len hf hp
  have hTp : ∀ l ∈ truthsG ls ps, poseG ls l = true := fun l h => truth_pose hp h
  unfold proofX
  repeat (first | (with_reducible (first | refine wA ?_ | refine wB ?_ | refine wC ?_ | refine wD ?_ | refine wE ?_ | refine wF ?_ | refine wG ?_ | refine wH ?_ | refine wI ?_ | refine wJ ?_ | refine wK ?_ | refine wL ?_ | refine wM ?_ | refine wN ?_ | refine wO ?_ | refine wP ?_ | refine wQ rfl ?_ | refine wR ?_ | refine wS ?_ | refine wT ?_ | refine wU ?_)) | ((with_reducible (first | apply wV | apply wW | apply wX | (apply wY [] hTT cfWf_ok noM_ok mixed; (focus kernel_rfl)))); (focus (simp only [Tryz.f58, cfWf, c110, hd, hd0, hf, hp, go_sem]; with_reducible rfl))) | (with_reducible refine wZ hTT cfWf_ok noM_ok ?_) | (with_reducible refine wa ?_; refine And.intro ?_ ?_; (focus kernel_rfl)))
  generalize truthsG ls ps = T at *
  refine RunQ.keep [9, 8, 4, 3] (by simp only [go_sem]; rfl) ?_
  refine RunQ.loop (fun i s' => (∀ j x, j < i → T[j]? = some x → finG s ls g x = true) ∧ s' = ⟨[(9, ii i), (8, .sl .a (T.map pvL)), (4, .bp 1 0), (3, .bp 0 0)], 31, [.var [ii s, .sl z (ls.map encLb)] false, .var [ii g.e.a, ii g.e.b, ii g.e.c, ii g.e.d, .sl zh (g.hs.map encFld), .sl zr (g.rs.map ii)] false]⟩)
    T.length ⟨fun j x h => absurd h (by omega), rfl⟩ ?_
  rintro i _ hi ⟨hbef, rfl⟩
  by_cases hlt : i < T.length
  · obtain ⟨l, hx⟩ : ∃ l, T[i]? = some l := ⟨_, List.getElem?_eq_getElem hlt⟩
    obtain ⟨zn, hzn, hzk⟩ := pvL_z l
    have hx' : (T.map pvL)[i]? = some (.sl zn (l.map ii)) := by rw [← hzn]; exact map_get hx
    have hpl := hTp l (List.mem_of_getElem? hx)
    have hd3 := decIs1_enc hzk
    have hlt' : (i : Int) < T.length := by omega
    have e4 : IntKind.i64.wrap ((i : Int) + 1) = ((i + 1 : Nat) : Int) := wrap_id (by omega) (by omega)
    cases hfi : finG s ls g l
    · rw [proof_first hx hbef hfi]
      repeat (first | (with_reducible (first | refine wA ?_ | refine wB ?_ | refine wC ?_ | refine wD ?_ | refine wE ?_ | refine wF ?_ | refine wG ?_ | refine wH ?_ | refine wI ?_ | refine wJ ?_ | refine wK ?_ | refine wL ?_ | refine wM ?_ | refine wN ?_ | refine wO ?_ | refine wP ?_ | refine wQ rfl ?_ | refine wR ?_ | refine wS ?_ | refine wT ?_ | refine wU ?_)) | ((with_reducible (first | apply wV | apply wW | apply wX | (apply wY [] hTT cfWf_ok noM_ok mixed; (focus kernel_rfl)))); (focus (simp only [Tryz.f58, cfWf, c44, closedL_lbs, closedL_flds, closedL_is, hd, hd2, hd3, hf, hg, hpl, hfi, hx', hlt', List.length_map, go_sem]; with_reducible rfl))) | (with_reducible refine wZ hTT cfWf_ok noM_ok ?_) | (with_reducible refine wa ?_; refine And.intro ?_ ?_; (focus kernel_rfl)))
      have hc0 : (pvL l).closed = true := pvL_closed l
      unfold proofW
      dsimp only
      rw [hzn] at hc0 ⊢
      exact ⟨rfl, rfl, _, rfl, leave_closed (show closedL [.sl zn (l.map ii), .bool true] = true from by simp only [closedL, hc0]; rfl)⟩
    · repeat (first | (with_reducible (first | refine wA ?_ | refine wB ?_ | refine wC ?_ | refine wD ?_ | refine wE ?_ | refine wF ?_ | refine wG ?_ | refine wH ?_ | refine wI ?_ | refine wJ ?_ | refine wK ?_ | refine wL ?_ | refine wM ?_ | refine wN ?_ | refine wO ?_ | refine wP ?_ | refine wQ rfl ?_ | refine wR ?_ | refine wS ?_ | refine wT ?_ | refine wU ?_)) | ((with_reducible (first | apply wV | apply wW | apply wX | (apply wY [] hTT cfWf_ok noM_ok mixed; (focus kernel_rfl)))); (focus (simp only [Tryz.f58, cfWf, c44, closedL_lbs, closedL_flds, closedL_is, hd, hd2, hd3, hf, hg, hpl, hfi, hx', hlt', e4, List.length_map, go_sem]; with_reducible rfl))) | (with_reducible refine wZ hTT cfWf_ok noM_ok ?_) | (with_reducible refine wa ?_; refine And.intro ?_ ?_; (focus kernel_rfl)))
      refine roundQ.t 2 [9, 8, 4, 3] hlt (by simp only [ltB_is, ltB_lbs, ltB_flds, ltB_pv, ltB_sl, ltB_int, ltBL_cons, ltBL_nil, go_sem]) ⟨fun j x hj hxx => by
        by_cases hji : j = i
        · subst hji; rw [hx] at hxx; cases hxx; exact hfi
        · exact hbef j x (by omega) hxx, by simp only [go_sem]⟩
  · have hlt' : ¬ (i : Int) < T.length := by omega
    obtain rfl : i = T.length := by omega
    rw [proof_nil hbef]
    repeat (first | (with_reducible (first | refine wA ?_ | refine wB ?_ | refine wC ?_ | refine wD ?_ | refine wE ?_ | refine wF ?_ | refine wG ?_ | refine wH ?_ | refine wI ?_ | refine wJ ?_ | refine wK ?_ | refine wL ?_ | refine wM ?_ | refine wN ?_ | refine wO ?_ | refine wP ?_ | refine wQ rfl ?_ | refine wR ?_ | refine wS ?_ | refine wT ?_ | refine wU ?_)) | ((with_reducible (first | apply wV | apply wW | apply wX | (apply wY [] hTT cfWf_ok noM_ok mixed; (focus kernel_rfl)))); (focus (simp only [Tryz.f58, hlt', List.length_map, go_sem]; with_reducible rfl))) | (with_reducible refine wZ hTT cfWf_ok noM_ok ?_) | (with_reducible refine wa ?_; refine And.intro ?_ ?_; (focus kernel_rfl)))
    exact ⟨rfl, rfl, _, rfl, leave_closed rfl⟩
def c58 : List PV → List Box → Option (PRes × List Box)
  | [v, w, p], sg => match decFig v, decStg w, decIs1 p with
    | some (s, ls), some g, some ps => if figB s ls = true ∧ stgG ls g = true ∧ poseG ls ps = true then some (.ret (proofX s ls g ps), sg) else none
    | _, _, _ => none
  | _, _ => none
theorem c58_ok : ConOk Tryz.prog 58 c58 := ConOk.of0 (ent Tryz.func58 rfl) fun args sg r sg' h => by
  unfold c58 at h
  split at h <;> try (cases h; done)
  split at h <;> try (cases h; done)
  rename_i h1 h2 h3
  split at h <;> cases h
  rename_i hc
  obtain ⟨z, rfl, hz⟩ := decFig_inv h1
  obtain ⟨zh, zr, rfl, hh, hr⟩ := decStg_inv h2
  obtain ⟨zp, rfl, hp⟩ := decIs1_inv h3
  exact ⟨_, rfl, rfl, by rw [ltBL_cons, ltB_fig, ltBL_cons, ltB_stg, ltBL_cons, ltB_isl]; rfl, RProof_58 _ _ _ _ _ _ _ _ (zOk_n' hz) hh hr (zOk_n' hp) hc.1 hc.2.1 hc.2.2⟩
def cfWe : CallF := cfAdd (cfAdd (cfAdd cf0 110 c110) 44 c44) 58 c58
theorem cfWe_ok : CallFOk Tryz.prog cfWe := cfAdd_ok (cfAdd_ok (cfAdd_ok cf0_ok c110_ok) c44_ok) c58_ok
theorem any_cnt {T : List (List Int)} {p : List Int → Bool} {i : Nat} {l : List Int} (h : T[i]? = some l) (hp : p l = true) : (T.filter p).length ≠ 0 := fun e => by
  have := List.length_eq_zero_iff.1 e
  have hm : l ∈ T.filter p := List.mem_filter.2 ⟨List.mem_of_getElem? h, hp⟩
  rw [this] at hm
  cases hm
theorem none_cnt {T : List (List Int)} {p : List Int → Bool} (h : ∀ j x, j < T.length → T[j]? = some x → p x = false) : (T.filter p).length = 0 := by
  rw [List.length_eq_zero_iff, List.filter_eq_nil_iff]
  intro x hx
  obtain ⟨i, hi⟩ := List.getElem?_of_mem hx
  rw [h i x (List.getElem?_eq_some_iff.1 hi).1 hi]
  simp
theorem RSure_57 (s : Int) (z zh zr zp : Z) (ls : List Lb) (g : Stg) (ps : List Int) (hzo : zOk z (ls.map encLb) = true) (hh : zOk zh (g.hs.map encFld) = true) (hr : zOk zr (g.rs.map ii) = true) (hzp : zOk zp (ps.map ii) = true) (hf : figB s ls = true) (hg : stgG ls g = true) (hp : poseG ls ps = true) :
    CallOk Tryz.prog 57 [.agg [ii s, .sl z (ls.map encLb)], encStg zh zr g, .sl zp (ps.map ii)] [] (.ret (ii (sureI (truthsG ls ps) (finG s ls g)))) [] := by
  refine CallOk.ofF hTT Tryz.func57 rfl rfl ?_
  have hd := decFig_enc s z ls hzo
  have hd2 := decStg_enc hh hr
  have hd0 := decIs1_enc hzp
  unfold encStg at hd2 ⊢
  have hTl := truths_len hf hp
  have hTn := truths_ne hf hp
  have hTp : ∀ l ∈ truthsG ls ps, poseG ls l = true := fun l h => truth_pose hp h
  have hX : proofX s ls g ps = proofW (proofO (truthsG ls ps) (finG s ls g)) := rfl
  cases ho : proofO (truthsG ls ps) (finG s ls g) with
  | none =>
    rw [ho] at hX
    have hX : proofX s ls g ps = .tuple [.sl .n [], .bool false] := hX
    unfold sureI
    rw [if_pos (proof_none.1 ho)]
    repeat (first | (with_reducible (first | refine wA ?_ | refine wB ?_ | refine wC ?_ | refine wD ?_ | refine wE ?_ | refine wF ?_ | refine wG ?_ | refine wH ?_ | refine wI ?_ | refine wJ ?_ | refine wK ?_ | refine wL ?_ | refine wM ?_ | refine wN ?_ | refine wO ?_ | refine wP ?_ | refine wQ rfl ?_ | refine wR ?_ | refine wS ?_ | refine wT ?_ | refine wU ?_)) | ((with_reducible (first | apply wV | apply wW | apply wX | (apply wY [] hTT cfWe_ok noM_ok mixed; (focus kernel_rfl)))); (focus (simp only [Tryz.f57, cfWe, c58, hd, hd2, hd0, hf, hg, hp, hX, go_sem]; with_reducible rfl))) | (with_reducible refine wZ hTT cfWe_ok noM_ok ?_) | (with_reducible refine wa ?_; refine And.intro ?_ ?_; (focus kernel_rfl)))
    exact ⟨rfl, rfl, _, rfl, leave_closed rfl⟩
  | some l0 =>
  rw [ho] at hX
  have hX : proofX s ls g ps = .tuple [pvL l0, .bool true] := hX
  obtain ⟨zn0, hzn0, hzk0⟩ := pvL_z l0
  rw [hzn0] at hX
  have hne : ¬ ((truthsG ls ps).filter (finG s ls g)).length = (truthsG ls ps).length := fun e => by rw [proof_none.2 e] at ho; cases ho
  unfold sureI
  rw [if_neg hne]
  repeat (first | (with_reducible (first | refine wA ?_ | refine wB ?_ | refine wC ?_ | refine wD ?_ | refine wE ?_ | refine wF ?_ | refine wG ?_ | refine wH ?_ | refine wI ?_ | refine wJ ?_ | refine wK ?_ | refine wL ?_ | refine wM ?_ | refine wN ?_ | refine wO ?_ | refine wP ?_ | refine wQ rfl ?_ | refine wR ?_ | refine wS ?_ | refine wT ?_ | refine wU ?_)) | ((with_reducible (first | apply wV | apply wW | apply wX | (apply wY [] hTT cfWe_ok noM_ok mixed; (focus kernel_rfl)))); (focus (simp only [Tryz.f57, cfWe, c58, c110, hd, hd2, hd0, hf, hg, hp, hX, go_sem]; with_reducible rfl))) | (with_reducible refine wZ hTT cfWe_ok noM_ok ?_) | (with_reducible refine wa ?_; refine And.intro ?_ ?_; (focus kernel_rfl)))
  generalize truthsG ls ps = T at *
  refine RunQ.keep [10, 9, 4, 3] (by simp only [go_sem]; rfl) ?_
  refine RunQ.loop (fun i s' => (∀ j x, j < i → T[j]? = some x → finG s ls g x = false) ∧ s' = ⟨[(10, ii i), (9, .sl .a (T.map pvL)), (4, .bp 1 0), (3, .bp 0 0)], 36, [.var [ii s, .sl z (ls.map encLb)] false, .var [ii g.e.a, ii g.e.b, ii g.e.c, ii g.e.d, .sl zh (g.hs.map encFld), .sl zr (g.rs.map ii)] false]⟩)
    T.length ⟨fun j x h => absurd h (by omega), rfl⟩ ?_
  rintro i _ hi ⟨hbef, rfl⟩
  by_cases hlt : i < T.length
  · obtain ⟨l, hx⟩ : ∃ l, T[i]? = some l := ⟨_, List.getElem?_eq_getElem hlt⟩
    obtain ⟨zn, hzn, hzk⟩ := pvL_z l
    have hx' : (T.map pvL)[i]? = some (.sl zn (l.map ii)) := by rw [← hzn]; exact map_get hx
    have hpl := hTp l (List.mem_of_getElem? hx)
    have hd3 := decIs1_enc hzk
    have hlt' : (i : Int) < T.length := by omega
    have e4 : IntKind.i64.wrap ((i : Int) + 1) = ((i + 1 : Nat) : Int) := wrap_id (by omega) (by omega)
    cases hfi : finG s ls g l
    · repeat (first | (with_reducible (first | refine wA ?_ | refine wB ?_ | refine wC ?_ | refine wD ?_ | refine wE ?_ | refine wF ?_ | refine wG ?_ | refine wH ?_ | refine wI ?_ | refine wJ ?_ | refine wK ?_ | refine wL ?_ | refine wM ?_ | refine wN ?_ | refine wO ?_ | refine wP ?_ | refine wQ rfl ?_ | refine wR ?_ | refine wS ?_ | refine wT ?_ | refine wU ?_)) | ((with_reducible (first | apply wV | apply wW | apply wX | (apply wY [] hTT cfWe_ok noM_ok mixed; (focus kernel_rfl)))); (focus (simp only [Tryz.f57, cfWe, c44, closedL_lbs, closedL_flds, closedL_is, hd, hd2, hd3, hf, hg, hpl, hfi, hx', hlt', e4, List.length_map, go_sem]; with_reducible rfl))) | (with_reducible refine wZ hTT cfWe_ok noM_ok ?_) | (with_reducible refine wa ?_; refine And.intro ?_ ?_; (focus kernel_rfl)))
      refine roundQ.t 2 [10, 9, 4, 3] hlt (by simp only [ltB_is, ltB_lbs, ltB_flds, ltB_pv, ltB_sl, ltB_int, ltBL_cons, ltBL_nil, go_sem]) ⟨fun j x hj hxx => by
        by_cases hji : j = i
        · subst hji; rw [hx] at hxx; cases hxx; exact hfi
        · exact hbef j x (by omega) hxx, by simp only [go_sem]⟩
    · rw [if_neg (any_cnt hx hfi)]
      repeat (first | (with_reducible (first | refine wA ?_ | refine wB ?_ | refine wC ?_ | refine wD ?_ | refine wE ?_ | refine wF ?_ | refine wG ?_ | refine wH ?_ | refine wI ?_ | refine wJ ?_ | refine wK ?_ | refine wL ?_ | refine wM ?_ | refine wN ?_ | refine wO ?_ | refine wP ?_ | refine wQ rfl ?_ | refine wR ?_ | refine wS ?_ | refine wT ?_ | refine wU ?_)) | ((with_reducible (first | apply wV | apply wW | apply wX | (apply wY [] hTT cfWe_ok noM_ok mixed; (focus kernel_rfl)))); (focus (simp only [Tryz.f57, cfWe, c44, closedL_lbs, closedL_flds, closedL_is, hd, hd2, hd3, hf, hg, hpl, hfi, hx', hlt', List.length_map, go_sem]; with_reducible rfl))) | (with_reducible refine wZ hTT cfWe_ok noM_ok ?_) | (with_reducible refine wa ?_; refine And.intro ?_ ?_; (focus kernel_rfl)))
      exact ⟨rfl, rfl, _, rfl, leave_closed rfl⟩
  · have hlt' : ¬ (i : Int) < T.length := by omega
    obtain rfl : i = T.length := by omega
    rw [if_pos (none_cnt hbef)]
    repeat (first | (with_reducible (first | refine wA ?_ | refine wB ?_ | refine wC ?_ | refine wD ?_ | refine wE ?_ | refine wF ?_ | refine wG ?_ | refine wH ?_ | refine wI ?_ | refine wJ ?_ | refine wK ?_ | refine wL ?_ | refine wM ?_ | refine wN ?_ | refine wO ?_ | refine wP ?_ | refine wQ rfl ?_ | refine wR ?_ | refine wS ?_ | refine wT ?_ | refine wU ?_)) | ((with_reducible (first | apply wV | apply wW | apply wX | (apply wY [] hTT cfWe_ok noM_ok mixed; (focus kernel_rfl)))); (focus (simp only [Tryz.f57, hlt', List.length_map, go_sem]; with_reducible rfl))) | (with_reducible refine wZ hTT cfWe_ok noM_ok ?_) | (with_reducible refine wa ?_; refine And.intro ?_ ?_; (focus kernel_rfl)))
    exact ⟨rfl, rfl, _, rfl, leave_closed rfl⟩
end Go.Pv

/- Contracts as tables: how surely a pose is held, and a proof, the program's and the reference's. -/
namespace Go.Pv
open Go Go.RowKit Go.Proofs
set_option maxRecDepth 10000
set_option maxHeartbeats 4000000

def c55 : List PV → List Box → Option (PRes × List Box)
  | [v, w, p], sg => match decFig v, decStg w, decIs1 p with
    | some (s, ls), some g, some ps => some (.ret (sureR s ls g ps), sg)
    | _, _, _ => none
  | _, _ => none
theorem c55_ok : ConOk Tryz.prog 55 c55 := ConOk.of0 (ent Tryz.func55 rfl) fun args sg r sg' h => by
  unfold c55 at h
  split at h <;> try (cases h; done)
  split at h <;> cases h
  rename_i h1 h2 h3
  obtain ⟨z, rfl, hz⟩ := decFig_inv h1
  obtain ⟨zh, zr, rfl, hh, hr⟩ := decStg_inv h2
  obtain ⟨zp, rfl, hp⟩ := decIs1_inv h3
  exact ⟨_, rfl, rfl, by rw [ltBL_cons, ltB_fig, ltBL_cons, ltB_stg, ltBL_cons, ltB_isl]; rfl, Sure_55 _ _ _ _ _ _ _ _ (zOk_n' hz) hh hr (zOk_n' hp)⟩
def c56 : List PV → List Box → Option (PRes × List Box)
  | [v, w, p], sg => match decFig v, decStg w, decIs1 p with
    | some (s, ls), some g, some ps => some (.ret (proofR s ls g ps), sg)
    | _, _, _ => none
  | _, _ => none
theorem c56_ok : ConOk Tryz.prog 56 c56 := ConOk.of0 (ent Tryz.func56 rfl) fun args sg r sg' h => by
  unfold c56 at h
  split at h <;> try (cases h; done)
  split at h <;> cases h
  rename_i h1 h2 h3
  obtain ⟨z, rfl, hz⟩ := decFig_inv h1
  obtain ⟨zh, zr, rfl, hh, hr⟩ := decStg_inv h2
  obtain ⟨zp, rfl, hp⟩ := decIs1_inv h3
  exact ⟨_, rfl, rfl, by rw [ltBL_cons, ltB_fig, ltBL_cons, ltB_stg, ltBL_cons, ltB_isl]; rfl, Proof_56 _ _ _ _ _ _ _ _ (zOk_n' hz) hh hr (zOk_n' hp)⟩
def c57 : List PV → List Box → Option (PRes × List Box)
  | [v, w, p], sg => match decFig v, decStg w, decIs1 p with
    | some (s, ls), some g, some ps => if figB s ls = true ∧ stgG ls g = true ∧ poseG ls ps = true then some (.ret (ii (sureI (truthsG ls ps) (finG s ls g))), sg) else none
    | _, _, _ => none
  | _, _ => none
theorem c57_ok : ConOk Tryz.prog 57 c57 := ConOk.of0 (ent Tryz.func57 rfl) fun args sg r sg' h => by
  unfold c57 at h
  split at h <;> try (cases h; done)
  split at h <;> try (cases h; done)
  rename_i h1 h2 h3
  split at h <;> cases h
  rename_i hc
  obtain ⟨z, rfl, hz⟩ := decFig_inv h1
  obtain ⟨zh, zr, rfl, hh, hr⟩ := decStg_inv h2
  obtain ⟨zp, rfl, hp⟩ := decIs1_inv h3
  exact ⟨_, rfl, rfl, by rw [ltBL_cons, ltB_fig, ltBL_cons, ltB_stg, ltBL_cons, ltB_isl]; rfl, RSure_57 _ _ _ _ _ _ _ _ (zOk_n' hz) hh hr (zOk_n' hp) hc.1 hc.2.1 hc.2.2⟩
end Go.Pv
