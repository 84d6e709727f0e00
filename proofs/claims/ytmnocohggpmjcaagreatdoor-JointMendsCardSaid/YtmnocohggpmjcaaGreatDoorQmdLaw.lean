/- Contracts: many poses; poses, the reference's; the law JointMends: its function returns true, whatever it is given. -/
import Derived.Test.YtmnocohggpmjcaaGreatDoorQmdMends
import Derived.Test.YtmnocohggpmjcaaGreatDoorQzMore
import Derived.Test.YtmnocohggpmjcaaGreatDoorQtA
set_option linter.all false
namespace Go.Pv
open Go Go.RowKit Go.Proofs
set_option maxRecDepth 200000
set_option maxHeartbeats 8000000
/-- Not too many poses, none of them too long. -/
def manyQ (L : List Qi) : Bool := (L.all fun q => decide (q.2.length ≤ 8)) && decide (L.length ≤ 8)
def manyP (L : List Qi) (i : Nat) : Bool := (((L.drop i).take (9 - i)).all fun q => decide (q.2.length ≤ 8)) && decide (L.length ≤ 8)
theorem manyP_0 (L : List Qi) : manyP L 0 = manyQ L := by
  unfold manyP manyQ
  by_cases h : L.length ≤ 8
  · rw [List.drop_zero, List.take_of_length_le (by omega)]
  · rw [decide_eq_false h, Bool.and_false, Bool.and_false]
theorem manyP_s {L : List Qi} {i : Nat} {q : Qi} (hq : L[i]? = some q) (hi : i < 9) : manyP L i = (decide (q.2.length ≤ 8) && manyP L (i + 1)) := by
  unfold manyP
  rw [drop_get hq, show 9 - i = (9 - (i + 1)) + 1 by omega, List.take_succ_cons, List.all_cons, Bool.and_assoc]
theorem manyP_e {L : List Qi} {i : Nat} (h : ¬ (i < L.length ∧ i < 9)) : manyP L i = decide (L.length ≤ 8) := by
  unfold manyP
  have : (L.drop i).take (9 - i) = [] := by
    by_cases h9 : i < 9
    · rw [List.drop_eq_nil_of_le (by omega), List.take_nil]
    · rw [show 9 - i = 0 by omega, List.take_zero]
  rw [this]; rfl
theorem many_59 (zq : Z) (L : List Qi) (hzq : zq = .n → L = []) : CallOk Tryz.prog 59 [.sl zq (L.map encQ)] [] (.ret (.bool (manyQ L))) [] := by
  refine CallOk.of0 hTT Tryz.func59 rfl rfl ?_
  rw [← manyP_0]
  repeat (first | (with_reducible (first | apply wA | apply wB | apply wC | apply wD | apply wE | apply wF | apply wG | apply wH | apply wI | apply wJ | apply wK | apply wL | apply wM | apply wN | apply wO | apply wP | apply wQ rfl | apply wR | apply wS | apply wT | apply wU)) | ((with_reducible (first | apply wV | apply wW | apply wX | (apply wY [] hTT cf0_ok noM_ok mixed; (focus kernel_rfl)))); (focus (simp only [Tryz.f59, go_sem]; with_reducible rfl))) | (with_reducible refine wZ hTT cf0_ok noM_ok ?_) | (with_reducible refine wa ?_; refine And.intro ?_ ?_; (focus kernel_rfl)))
  refine RunQ.keep [3, 2, 0] (by simp only [go_sem]; rfl) ?_
  refine RunQ.loop (fun i s' => manyP L 0 = manyP L i ∧ s' = ⟨[(3, ii i), (2, .bool false), (0, .sl zq (L.map encQ))], 23, []⟩) (min 9 L.length) ⟨rfl, rfl⟩ ?_
  rintro i _ hi ⟨hm, rfl⟩
  by_cases hb : i < L.length ∧ i < 9
  · have hlt : i < min 9 L.length := by omega
    obtain ⟨q, hq⟩ : ∃ q, L[i]? = some q := ⟨_, List.getElem?_eq_getElem hb.1⟩
    have hq' : (L.map encQ)[i]? = some (.sl q.1 (q.2.map ii)) := by rw [List.getElem?_map, hq]; rfl
    have hlt' : (i : Int) < L.length := by omega
    have hlt9 : (i : Int) < 9 := by omega
    have hzq' : zq ≠ .n := fun e => by rw [hzq e] at hlt'; simp at hlt'; omega
    have e4 : IntKind.i64.wrap ((i : Int) + 1) = ((i + 1 : Nat) : Int) := wrap_id (by omega) (by omega)
    rw [manyP_s hq hb.2] at hm
    by_cases h8 : q.2.length ≤ 8
    · have h8' : ¬ (8 : Int) < q.2.length := by omega
      rw [decide_eq_true h8, Bool.true_and] at hm
      repeat (first | (with_reducible (first | apply wA | apply wB | apply wC | apply wD | apply wE | apply wF | apply wG | apply wH | apply wI | apply wJ | apply wK | apply wL | apply wM | apply wN | apply wO | apply wP | apply wQ rfl | apply wR | apply wS | apply wT | apply wU)) | ((with_reducible (first | apply wV | apply wW | apply wX | (apply wY [] hTT cf0_ok noM_ok mixed; (focus kernel_rfl)))); (focus (simp only [Tryz.f59, hq', hlt', hlt9, hzq', e4, h8', gt_iff_lt, List.length_map, go_sem]; with_reducible rfl))) | (with_reducible refine wZ hTT cf0_ok noM_ok ?_) | (with_reducible refine wa ?_; refine And.intro ?_ ?_; (focus kernel_rfl)))
      refine roundQ.t 0 [3, 2, 0] hlt (by simp only [ltB_Qs, go_sem]) ⟨hm, by simp only [go_sem]⟩
    · have h8' : (8 : Int) < q.2.length := by omega
      rw [decide_eq_false h8, Bool.false_and] at hm
      repeat (first | (with_reducible (first | apply wA | apply wB | apply wC | apply wD | apply wE | apply wF | apply wG | apply wH | apply wI | apply wJ | apply wK | apply wL | apply wM | apply wN | apply wO | apply wP | apply wQ rfl | apply wR | apply wS | apply wT | apply wU)) | ((with_reducible (first | apply wV | apply wW | apply wX | (apply wY [] hTT cf0_ok noM_ok mixed; (focus kernel_rfl)))); (focus (simp only [Tryz.f59, hq', hlt', hlt9, hzq', e4, h8', gt_iff_lt, List.length_map, go_sem]; with_reducible rfl))) | (with_reducible refine wZ hTT cf0_ok noM_ok ?_) | (with_reducible refine wa ?_; refine And.intro ?_ ?_; (focus kernel_rfl)))
      refine ⟨rfl, rfl, _, rfl, ?_⟩
      rw [hm]; rfl
  · rw [manyP_e hb] at hm
    by_cases hlt : i < L.length
    · have hlt' : (i : Int) < L.length := by omega
      have hlt9 : ¬ (i : Int) < 9 := by omega
      have hle : ¬ (L.length : Int) ≤ 8 := by omega
      rw [decide_eq_false (by omega)] at hm
      repeat (first | (with_reducible (first | apply wA | apply wB | apply wC | apply wD | apply wE | apply wF | apply wG | apply wH | apply wI | apply wJ | apply wK | apply wL | apply wM | apply wN | apply wO | apply wP | apply wQ rfl | apply wR | apply wS | apply wT | apply wU)) | ((with_reducible (first | apply wV | apply wW | apply wX | (apply wY [] hTT cf0_ok noM_ok mixed; (focus kernel_rfl)))); (focus (simp only [Tryz.f59, hlt', hlt9, hle, List.length_map, go_sem]; with_reducible rfl))) | (with_reducible refine wZ hTT cf0_ok noM_ok ?_) | (with_reducible refine wa ?_; refine And.intro ?_ ?_; (focus kernel_rfl)))
      refine ⟨rfl, rfl, _, rfl, ?_⟩
      rw [hm]; rfl
    · have hlt' : ¬ (i : Int) < L.length := by omega
      rw [hm]
      by_cases h8 : L.length ≤ 8
      · have hle : (L.length : Int) ≤ 8 := by omega
        rw [decide_eq_true h8]
        repeat (first | (with_reducible (first | apply wA | apply wB | apply wC | apply wD | apply wE | apply wF | apply wG | apply wH | apply wI | apply wJ | apply wK | apply wL | apply wM | apply wN | apply wO | apply wP | apply wQ rfl | apply wR | apply wS | apply wT | apply wU)) | ((with_reducible (first | apply wV | apply wW | apply wX | (apply wY [] hTT cf0_ok noM_ok mixed; (focus kernel_rfl)))); (focus (simp only [Tryz.f59, hlt', hle, List.length_map, go_sem]; with_reducible rfl))) | (with_reducible refine wZ hTT cf0_ok noM_ok ?_) | (with_reducible refine wa ?_; refine And.intro ?_ ?_; (focus kernel_rfl)))
        exact ⟨rfl, rfl, _, rfl, rfl⟩
      · have hle : ¬ (L.length : Int) ≤ 8 := by omega
        rw [decide_eq_false h8]
        repeat (first | (with_reducible (first | apply wA | apply wB | apply wC | apply wD | apply wE | apply wF | apply wG | apply wH | apply wI | apply wJ | apply wK | apply wL | apply wM | apply wN | apply wO | apply wP | apply wQ rfl | apply wR | apply wS | apply wT | apply wU)) | ((with_reducible (first | apply wV | apply wW | apply wX | (apply wY [] hTT cf0_ok noM_ok mixed; (focus kernel_rfl)))); (focus (simp only [Tryz.f59, hlt', hle, List.length_map, go_sem]; with_reducible rfl))) | (with_reducible refine wZ hTT cf0_ok noM_ok ?_) | (with_reducible refine wa ?_; refine And.intro ?_ ?_; (focus kernel_rfl)))
        exact ⟨rfl, rfl, _, rfl, rfl⟩
def c59 : List PV → List Box → Option (PRes × List Box)
  | [.sl zq es], sg => match decL decQ es with
    | some L => if zq = .n → L = [] then some (.ret (.bool (manyQ L)), sg) else none
    | none => none
  | _, _ => none
theorem c59_ok : ConOk Tryz.prog 59 c59 := ConOk.of0 (ent Tryz.func59 rfl) fun args sg r sg' h => by
  unfold c59 at h
  split at h <;> try (cases h; done)
  split at h <;> try (cases h; done)
  rename_i h3
  split at h <;> cases h
  rename_i hc
  obtain rfl := decL_inv decQ_inv h3
  exact ⟨_, rfl, rfl, by rw [ltBL_cons, ltB_sl, ltB_Qs]; rfl, many_59 _ _ hc⟩
theorem manyQ_ok {L : List Qi} (h : manyQ L = true) : L.length ≤ 8 ∧ ∀ q ∈ L, q.2.length ≤ 8 := by
  unfold manyQ at h
  simp only [Bool.and_eq_true, List.all_eq_true, decide_eq_true_eq] at h
  exact ⟨h.2, h.1⟩
def cfMv : CallF := cfAdd cf0 27 c86
theorem cfMv_ok : CallFOk Tryz.prog cfMv := cfAdd_ok cf0_ok c27_ok
def posF (ls : List Lb) (L : List Qi) (i : Nat) : Bool := ((L.drop i).all fun q => poseG ls q.2) && decide (L.length ≤ 6)
theorem Poses_61 (s : Int) (z zq : Z) (ls : List Lb) (L : List Qi) (hzo : zOk z (ls.map encLb) = true) (hs : ls.length ≤ 1000) (hzq : zq = .n → L = []) (hq : qsB L = true) (hL : L.length ≤ 100000) :
    CallOk Tryz.prog 61 [.agg [ii s, .sl z (ls.map encLb)], .sl zq (L.map encQ)] [] (.ret (.bool (posesB ls L))) [] := by
  refine CallOk.of0 hTT Tryz.func61 rfl rfl ?_
  have hd := decFig_enc s z ls hzo
  have h0 : posesB ls L = posF ls L 0 := rfl
  rw [h0]
  repeat (first | (with_reducible (first | apply wA | apply wB | apply wC | apply wD | apply wE | apply wF | apply wG | apply wH | apply wI | apply wJ | apply wK | apply wL | apply wM | apply wN | apply wO | apply wP | apply wQ rfl | apply wR | apply wS | apply wT | apply wU)) | ((with_reducible (first | apply wV | apply wW | apply wX | (apply wY [] hTT cfMv_ok noM_ok mixed; (focus kernel_rfl)))); (focus (simp only [Tryz.f61, go_sem]; with_reducible rfl))) | (with_reducible refine wZ hTT cfMv_ok noM_ok ?_) | (with_reducible refine wa ?_; refine And.intro ?_ ?_; (focus kernel_rfl)))
  refine RunQ.keep [5, 4, 2, 1] (by simp only [go_sem]; rfl) ?_
  refine RunQ.loop (fun i s' => posF ls L 0 = posF ls L i ∧ s' = ⟨[(5, ii i), (4, .bool false), (2, .bp 0 0), (1, .sl zq (L.map encQ))], 22, [.var [ii s, .sl z (ls.map encLb)] false]⟩) L.length ⟨rfl, rfl⟩ ?_
  rintro i _ hi ⟨hm, rfl⟩
  by_cases hlt : i < L.length
  · obtain ⟨q, hqi⟩ : ∃ q, L[i]? = some q := ⟨_, List.getElem?_eq_getElem hlt⟩
    have hq' : (L.map encQ)[i]? = some (.sl q.1 (q.2.map ii)) := by rw [List.getElem?_map, hqi]; rfl
    have hlt' : (i : Int) < L.length := by omega
    have hzq' : zq ≠ .n := fun e => by rw [hzq e] at hlt'; simp at hlt'; omega
    have e4 : IntKind.i64.wrap ((i : Int) + 1) = ((i + 1 : Nat) : Int) := wrap_id (by omega) (by omega)
    have hdq := decIs1_enc (qsB_at hq hqi)
    have hst : posF ls L i = (poseG ls q.2 && posF ls L (i + 1)) := by
      unfold posF
      rw [drop_get hqi, List.all_cons, Bool.and_assoc]
    rw [hst] at hm
    cases hp : poseG ls q.2
    · rw [hp, Bool.false_and] at hm
      repeat (first | (with_reducible (first | apply wA | apply wB | apply wC | apply wD | apply wE | apply wF | apply wG | apply wH | apply wI | apply wJ | apply wK | apply wL | apply wM | apply wN | apply wO | apply wP | apply wQ rfl | apply wR | apply wS | apply wT | apply wU)) | ((with_reducible (first | apply wV | apply wW | apply wX | (apply wY [] hTT cfMv_ok noM_ok mixed; (focus kernel_rfl)))); (focus (simp only [Tryz.f61, cfMv, c86, hd, hdq, hs, hp, hq', hlt', hzq', e4, closedL_lbs, closedL_is, if_true, List.length_map, go_sem]; with_reducible rfl))) | (with_reducible refine wZ hTT cfMv_ok noM_ok ?_) | (with_reducible refine wa ?_; refine And.intro ?_ ?_; (focus kernel_rfl)))
      refine ⟨rfl, rfl, _, rfl, ?_⟩
      rw [hm]; rfl
    · rw [hp, Bool.true_and] at hm
      repeat (first | (with_reducible (first | apply wA | apply wB | apply wC | apply wD | apply wE | apply wF | apply wG | apply wH | apply wI | apply wJ | apply wK | apply wL | apply wM | apply wN | apply wO | apply wP | apply wQ rfl | apply wR | apply wS | apply wT | apply wU)) | ((with_reducible (first | apply wV | apply wW | apply wX | (apply wY [] hTT cfMv_ok noM_ok mixed; (focus kernel_rfl)))); (focus (simp only [Tryz.f61, cfMv, c86, hd, hdq, hs, hp, hq', hlt', hzq', e4, closedL_lbs, closedL_is, if_true, List.length_map, go_sem]; with_reducible rfl))) | (with_reducible refine wZ hTT cfMv_ok noM_ok ?_) | (with_reducible refine wa ?_; refine And.intro ?_ ?_; (focus kernel_rfl)))
      refine roundQ.t 1 [5, 4, 2, 1] hlt (by simp only [ltB_lbs, ltB_isl, ltB_Qs, go_sem]) ⟨hm, by simp only [go_sem]⟩
  · have hlt' : ¬ (i : Int) < L.length := by omega
    rw [hm]
    unfold posF
    rw [List.drop_eq_nil_of_le (by omega), List.all_nil, Bool.true_and]
    by_cases h6 : L.length ≤ 6
    · have hle : (L.length : Int) ≤ 6 := by omega
      rw [decide_eq_true h6]
      repeat (first | (with_reducible (first | apply wA | apply wB | apply wC | apply wD | apply wE | apply wF | apply wG | apply wH | apply wI | apply wJ | apply wK | apply wL | apply wM | apply wN | apply wO | apply wP | apply wQ rfl | apply wR | apply wS | apply wT | apply wU)) | ((with_reducible (first | apply wV | apply wW | apply wX | (apply wY [] hTT cfMv_ok noM_ok mixed; (focus kernel_rfl)))); (focus (simp only [Tryz.f61, hlt', hle, List.length_map, go_sem]; with_reducible rfl))) | (with_reducible refine wZ hTT cfMv_ok noM_ok ?_) | (with_reducible refine wa ?_; refine And.intro ?_ ?_; (focus kernel_rfl)))
      exact ⟨rfl, rfl, _, rfl, rfl⟩
    · have hle : ¬ (L.length : Int) ≤ 6 := by omega
      rw [decide_eq_false h6]
      repeat (first | (with_reducible (first | apply wA | apply wB | apply wC | apply wD | apply wE | apply wF | apply wG | apply wH | apply wI | apply wJ | apply wK | apply wL | apply wM | apply wN | apply wO | apply wP | apply wQ rfl | apply wR | apply wS | apply wT | apply wU)) | ((with_reducible (first | apply wV | apply wW | apply wX | (apply wY [] hTT cfMv_ok noM_ok mixed; (focus kernel_rfl)))); (focus (simp only [Tryz.f61, hlt', hle, List.length_map, go_sem]; with_reducible rfl))) | (with_reducible refine wZ hTT cfMv_ok noM_ok ?_) | (with_reducible refine wa ?_; refine And.intro ?_ ?_; (focus kernel_rfl)))
      exact ⟨rfl, rfl, _, rfl, rfl⟩
def c61 : List PV → List Box → Option (PRes × List Box)
  | [v, .sl zq es], sg => match decFig v, decL decQ es with
    | some (_, ls), some L => if ls.length ≤ 1000 ∧ (zq = .n → L = []) ∧ qsB L = true ∧ L.length ≤ 100000 then some (.ret (.bool (posesB ls L)), sg) else none
    | _, _ => none
  | _, _ => none
theorem c61_ok : ConOk Tryz.prog 61 c61 := ConOk.of0 (ent Tryz.func61 rfl) fun args sg r sg' h => by
  unfold c61 at h
  split at h <;> try (cases h; done)
  split at h <;> try (cases h; done)
  rename_i h1 h2
  split at h <;> cases h
  rename_i hc
  obtain ⟨z, rfl, hz⟩ := decFig_inv h1
  obtain rfl := decL_inv decQ_inv h2
  exact ⟨_, rfl, rfl, by rw [ltBL_cons, ltB_fig, ltBL_cons, ltB_sl, ltB_Qs]; rfl, Poses_61 _ _ _ _ _ (zOk_n' hz) hc.1 hc.2.1 hc.2.2.1 hc.2.2.2⟩
def c62 : List PV → List Box → Option (PRes × List Box)
  | [v, w, .sl zq es], sg => match decFig v, decStg w, decL decQ es with
    | some (s, ls), some g, some L => if (zq = .n → L = []) ∧ qsB L = true ∧ L.length ≤ 100000 ∧ figB s ls = true ∧ stgG ls g = true ∧ (L.all fun q => poseG ls q.2) = true then some (.ret (rmendV (mendsO ls.length (heldG s ls g L))), sg) else none
    | _, _, _ => none
  | _, _ => none
theorem c62_ok : ConOk Tryz.prog 62 c62 := ConOk.of0 (ent Tryz.func62 rfl) fun args sg r sg' h => by
  unfold c62 at h
  split at h <;> try (cases h; done)
  split at h <;> try (cases h; done)
  rename_i h1 h2 h3
  split at h <;> cases h
  rename_i hc
  obtain ⟨z, rfl, hz⟩ := decFig_inv h1
  obtain ⟨zh, zr, rfl, hh, hr⟩ := decStg_inv h2
  obtain rfl := decL_inv decQ_inv h3
  exact ⟨_, rfl, rfl, by rw [ltBL_cons, ltB_fig, ltBL_cons, ltB_stg, ltBL_cons, ltB_sl, ltB_Qs]; rfl, RMends_62 ⟨zOk_n' hz, hh, hr, hc.2.2.2.1, hc.2.2.2.2.1, hc.1, hc.2.1, hc.2.2.1, fun q hq => List.all_eq_true.1 hc.2.2.2.2.2 q hq⟩⟩
theorem mendsA_mem {n : Nat} {h : List Int → Bool} : ∀ {k m : Nat} {l : List Int}, mendsA n h k m = some l → ∃ j, m ≤ j ∧ j < m + k ∧ l ∈ combF n j 0 ∧ h l = true ∧ (combF n j 0).find? h = some l ∧ ∀ i, m ≤ i → i < j → (combF n i 0).find? h = none
  | 0, m, l, e => by cases e
  | k + 1, m, l, e => by
    have e : (match (cmb n [] m 0).find? h with | some l => some l | none => mendsA n h k (m + 1)) = some l := e
    rw [cmb_empty] at e
    cases hf : (combF n m 0).find? h with
    | some l' =>
      rw [hf] at e
      cases e
      exact ⟨m, Nat.le_refl _, by omega, List.mem_of_find?_eq_some hf, List.find?_some hf, hf, fun i h1 h2 => by omega⟩
    | none =>
      rw [hf] at e
      obtain ⟨j, h1, h2, h3, h4, h5, h6⟩ := mendsA_mem (k := k) (m := m + 1) e
      refine ⟨j, by omega, by omega, h3, h4, h5, fun i hi hij => ?_⟩
      by_cases him : i = m
      · subst him; exact hf
      · exact h6 i (by omega) hij
theorem mendsA_no {n : Nat} {h : List Int → Bool} : ∀ {k m : Nat}, mendsA n h k m = none → ∀ i, m ≤ i → i < m + k → (combF n i 0).find? h = none
  | 0, m, e, i, h1, h2 => by omega
  | k + 1, m, e, i, h1, h2 => by
    have e : (match (cmb n [] m 0).find? h with | some l => some l | none => mendsA n h k (m + 1)) = none := e
    rw [cmb_empty] at e
    cases hf : (combF n m 0).find? h with
    | some l' => rw [hf] at e; cases e
    | none =>
      rw [hf] at e
      by_cases him : i = m
      · subst him; exact hf
      · exact mendsA_no (k := k) (m := m + 1) e i (by omega) (by omega)
theorem mends_len {n : Nat} {h : List Int → Bool} {l : List Int} (e : mendsO n h = some l) : l.length ≤ n := by
  obtain ⟨j, h1, h2, h3, _⟩ := mendsA_mem e
  rw [comb_len j 0 l h3]; omega
def cfMv2 : CallF := cfAdd (cfAdd (cfAdd (cfAdd (cfAdd (cfAdd (cfAdd (cfAdd cf0 41 c41) 59 c59) 60 c60) 43 c43) 61 c61) 62 c62) 49 c49) 29 c29
theorem cfMv2_ok (hk : ConOk Tryz.prog 29 c29) : CallFOk Tryz.prog cfMv2 := cfAdd_ok (cfAdd_ok (cfAdd_ok (cfAdd_ok (cfAdd_ok (cfAdd_ok (cfAdd_ok (cfAdd_ok cf0_ok c41_ok) c59_ok) c60_ok) c43_ok) c61_ok) c62_ok) c49_ok) hk
theorem mends_13 (hk : ConOk Tryz.prog 29 c29) (s : Int) (z zh zr zq : Z) (ls : List Lb) (g : Stg) (L : List Qi) (hzo : zOk z (ls.map encLb) = true) (hh : zOk zh (g.hs.map encFld) = true) (hr : zOk zr (g.rs.map ii) = true) (hzq : zq = .n → L = []) (hq : qsB L = true) :
    CallOk Tryz.prog 13 [.agg [ii s, .sl z (ls.map encLb)], encStg zh zr g, .sl zq (L.map encQ)] [] (.ret (.bool true)) [] := by
  refine CallOk.of0 hTT Tryz.func13 rfl rfl ?_
  have hd := decFig_enc s z ls hzo
  have hd2 := decStg_enc hh hr
  have hdQ := decQs L
  have hzq1 : (zq = .n → L = []) = True := eq_true hzq
  unfold encStg at hd2 ⊢
  have e22 : ((2 : Int) == 2) = true := rfl
  have e00 : ((0 : Int) == 0) = true := rfl
  have e55 : ((5 : Int) == 5) = true := rfl
  cases h0 : stagedG ls g
  · repeat (first | (with_reducible (first | apply wA | apply wB | apply wC | apply wD | apply wE | apply wF | apply wG | apply wH | apply wI | apply wJ | apply wK | apply wL | apply wM | apply wN | apply wO | apply wP | apply wQ rfl | apply wR | apply wS | apply wT | apply wU)) | ((with_reducible (first | apply wV | apply wW | apply wX | (apply wY [] hTT (cfMv2_ok hk) noM_ok mixed; (focus kernel_rfl)))); (focus (simp only [Tryz.f13, cfMv2, c41, c29, hd, hd2, h0, go_sem]; with_reducible rfl))) | (with_reducible refine wZ hTT (cfMv2_ok hk) noM_ok ?_) | (with_reducible refine wa ?_; refine And.intro ?_ ?_; (focus kernel_rfl)))
    exact ⟨rfl, rfl, _, rfl, rfl⟩
  cases h1 : manyQ L
  · repeat (first | (with_reducible (first | apply wA | apply wB | apply wC | apply wD | apply wE | apply wF | apply wG | apply wH | apply wI | apply wJ | apply wK | apply wL | apply wM | apply wN | apply wO | apply wP | apply wQ rfl | apply wR | apply wS | apply wT | apply wU)) | ((with_reducible (first | apply wV | apply wW | apply wX | (apply wY [] hTT (cfMv2_ok hk) noM_ok mixed; (focus kernel_rfl)))); (focus (simp only [Tryz.f13, cfMv2, c41, c59, c29, hd, hd2, hdQ, hzq1, h0, h1, go_sem]; with_reducible rfl))) | (with_reducible refine wZ hTT (cfMv2_ok hk) noM_ok ?_) | (with_reducible refine wa ?_; refine And.intro ?_ ?_; (focus kernel_rfl)))
    exact ⟨rfl, rfl, _, rfl, rfl⟩
  have hL := (manyQ_ok h1).1
  have hL' : L.length ≤ 100000 := by omega
  have hst : ls.length ≤ 1000 := by
    unfold stagedG at h0
    simp only [Bool.and_eq_true, decide_eq_true_eq] at h0
    omega
  by_cases h2 : figB s ls = true ∧ stgG ls g = true
  case neg =>
    have hR : mendR s ls g L = .tuple [.sl .n [], ii 2] := by unfold mendR; rw [if_neg fun h => h2 ⟨h.1, h.2.1⟩]
    have hri : rightG s ls g = false := by
      unfold rightG
      rw [h0, Bool.true_and]
      cases a : figB s ls
      · rfl
      · cases b : stgG ls g
        · rfl
        · exact absurd ⟨a, b⟩ h2
    repeat (first | (with_reducible (first | apply wA | apply wB | apply wC | apply wD | apply wE | apply wF | apply wG | apply wH | apply wI | apply wJ | apply wK | apply wL | apply wM | apply wN | apply wO | apply wP | apply wQ rfl | apply wR | apply wS | apply wT | apply wU)) | ((with_reducible (first | apply wV | apply wW | apply wX | (apply wY [] hTT (cfMv2_ok hk) noM_ok mixed; (focus kernel_rfl)))); (focus (simp only [Tryz.f13, cfMv2, c41, c59, c60, c43, c29, hd, hd2, hdQ, hzq1, hq, hL', and_self, if_true, true_and, hR, hri, h0, h1, e22, e00, go_sem]; with_reducible rfl))) | (with_reducible refine wZ hTT (cfMv2_ok hk) noM_ok ?_) | (with_reducible refine wa ?_; refine And.intro ?_ ?_; (focus kernel_rfl)))
    exact ⟨rfl, rfl, _, rfl, rfl⟩
  have hri : rightG s ls g = true := by unfold rightG; rw [h0, h2.1, h2.2]; rfl
  have hf := h2.1
  have hg := h2.2
  cases h3 : posesB ls L
  · have hR : mendR s ls g L = .tuple [.sl .n [], ii 2] := by unfold mendR; rw [if_neg fun h => by rw [h3] at h; cases h.2.2]
    repeat (first | (with_reducible (first | apply wA | apply wB | apply wC | apply wD | apply wE | apply wF | apply wG | apply wH | apply wI | apply wJ | apply wK | apply wL | apply wM | apply wN | apply wO | apply wP | apply wQ rfl | apply wR | apply wS | apply wT | apply wU)) | ((with_reducible (first | apply wV | apply wW | apply wX | (apply wY [] hTT (cfMv2_ok hk) noM_ok mixed; (focus kernel_rfl)))); (focus (simp only [Tryz.f13, cfMv2, c41, c59, c60, c61, c43, c29, hd, hd2, hdQ, hzq1, hq, hL', hst, and_self, if_true, true_and, hR, hri, h0, h1, h3, e22, e00, go_sem]; with_reducible rfl))) | (with_reducible refine wZ hTT (cfMv2_ok hk) noM_ok ?_) | (with_reducible refine wa ?_; refine And.intro ?_ ?_; (focus kernel_rfl)))
    exact ⟨rfl, rfl, _, rfl, rfl⟩
  have hR : mendR s ls g L = mendV (mendsO ls.length (heldG s ls g L)) := by unfold mendR; rw [if_pos ⟨h2.1, h2.2, h3⟩]
  have hall : (L.all fun q => poseG ls q.2) = true := by
    unfold posesB at h3
    simp only [Bool.and_eq_true] at h3
    exact h3.1
  cases hM : mendsO ls.length (heldG s ls g L) with
  | none =>
    rw [hM] at hR
    have hR : mendR s ls g L = .tuple [.sl .n [], ii 5] := hR
    have hV : rmendV (mendsO ls.length (heldG s ls g L)) = .tuple [.sl .n [], .bool false] := by rw [hM]; rfl
    repeat (first | (with_reducible (first | apply wA | apply wB | apply wC | apply wD | apply wE | apply wF | apply wG | apply wH | apply wI | apply wJ | apply wK | apply wL | apply wM | apply wN | apply wO | apply wP | apply wQ rfl | apply wR | apply wS | apply wT | apply wU)) | ((with_reducible (first | apply wV | apply wW | apply wX | (apply wY [] hTT (cfMv2_ok hk) noM_ok mixed; (focus kernel_rfl)))); (focus (simp only [Tryz.f13, cfMv2, c41, c59, c60, c61, c62, c43, c29, hd, hd2, hdQ, hzq1, hq, hL', hst, hf, hg, hall, and_self, if_true, true_and, hR, hV, hri, h0, h1, h3, e55, e00, go_sem]; with_reducible rfl))) | (with_reducible refine wZ hTT (cfMv2_ok hk) noM_ok ?_) | (with_reducible refine wa ?_; refine And.intro ?_ ?_; (focus kernel_rfl)))
    exact ⟨rfl, rfl, _, rfl, rfl⟩
  | some l =>
    rw [hM] at hR
    have hlen := mends_len hM
    obtain ⟨zl, hzl, hzo2⟩ := pvL_z l
    have hR : mendR s ls g L = .tuple [.sl zl (l.map ii), ii 0] := by rw [hR, ← hzl]; rfl
    have hV : rmendV (mendsO ls.length (heldG s ls g L)) = .tuple [.sl (zM l.length) (l.map ii), .bool true] := by rw [hM]; rfl
    have hdl1 := decIs1_enc hzo2
    have hzm : zOk (zM l.length) (l.map ii) = true := by
      cases l with
      | nil => rfl
      | cons a t => cases t <;> rfl
    have hdl2 := decIs1_enc hzm
    have hlm : l.length ≤ maxLen := by unfold maxLen; omega
    have hll : decide (l = l) = true := decide_eq_true rfl
    repeat (first | (with_reducible (first | apply wA | apply wB | apply wC | apply wD | apply wE | apply wF | apply wG | apply wH | apply wI | apply wJ | apply wK | apply wL | apply wM | apply wN | apply wO | apply wP | apply wQ rfl | apply wR | apply wS | apply wT | apply wU)) | ((with_reducible (first | apply wV | apply wW | apply wX | (apply wY [] hTT (cfMv2_ok hk) noM_ok mixed; (focus kernel_rfl)))); (focus (simp only [Tryz.f13, cfMv2, c41, c59, c60, c61, c62, c43, c49, c29, hd, hd2, hdQ, hzq1, hq, hL', hst, hf, hg, hall, and_self, if_true, true_and, hR, hV, hri, h0, h1, h3, hdl1, hdl2, hlm, hll, e00, go_sem]; with_reducible rfl))) | (with_reducible refine wZ hTT (cfMv2_ok hk) noM_ok ?_) | (with_reducible refine wa ?_; refine And.intro ?_ ?_; (focus kernel_rfl)))
    exact ⟨rfl, rfl, _, rfl, rfl⟩
end Go.Pv
