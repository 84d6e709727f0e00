/- Contracts: whether turns are a way; which list of turns comes before. -/
import Derived.Test.YtmnocohggpmjcaaGreatDoorQmaWay
import Derived.Test.YtmnocohggpmjcaaGreatDoorQyRPath
import Derived.Test.YtmnocohggpmjcaaGreatDoorQtA
import Derived.Test.YtmnocohggpmjcaaGreatDoorQoFirst
set_option linter.all false
namespace Go.Pv
open Go Go.RowKit Go.Proofs
set_option maxRecDepth 200000
set_option maxHeartbeats 8000000
theorem goes_cc (s : Int) (ls : List Lb) (g : Stg) (a b : List Int) (t : Int × Int) (l : List (Int × Int)) : goesG s ls g a b (t :: l) = (limbG ls t.1 && (decide (t.2 = -1) || decide (t.2 = 1)) && poseG ls (trnG a t) && finG s ls g (trnG a t) && goesG s ls g (trnG a t) b l) := rfl
theorem goes_nil (s : Int) (ls : List Lb) (g : Stg) (a b : List Int) : goesG s ls g a b [] = decide (a = b) := rfl
def cfMd : CallF := cfAdd (cfAdd (cfAdd (cfAdd (cfAdd cf0 28 c88) 105 (conRow c145)) 27 c86) 70 c70) 49 c49
theorem cfMd_ok : CallFOk Tryz.prog cfMd := cfAdd_ok (cfAdd_ok (cfAdd_ok (cfAdd_ok (cfAdd_ok cf0_ok c28_ok) c105_ok.row) c27_ok) c70_ok) c49_ok
theorem goes_72 (s : Int) (z zh zr za zb zl : Z) (ls : List Lb) (g : Stg) (a b : List Int) (l : List (Int × Int)) (hzo : zOk z (ls.map encLb) = true) (hh : zOk zh (g.hs.map encFld) = true) (hr : zOk zr (g.rs.map ii) = true) (ha : zOk za (a.map ii) = true) (hb : zOk zb (b.map ii) = true) (hzl : zl = .n → l = [])
    (hf : figB s ls = true) (hg : stgG ls g = true) (hpa : poseG ls a = true) (hll : l.length ≤ 100000) :
    CallOk Tryz.prog 72 [.agg [ii s, .sl z (ls.map encLb)], encStg zh zr g, .sl za (a.map ii), .sl zb (b.map ii), .sl zl (l.map encT)] [] (.ret (.bool (goesG s ls g a b l))) [] := by
  refine CallOk.of0 hTT Tryz.func72 rfl rfl ?_
  have hd := decFig_enc s z ls hzo
  have hd2 := decStg_enc hh hr
  have hdb := decIs1_enc hb
  have hl := fig_len hf
  have hs : ls.length ≤ maxLen := by unfold maxLen; omega
  have hs2 : ls.length ≤ 1000 := by omega
  have hal := (pose_at hpa).1
  have hza : za ≠ .n := fun e => by
    have := zOk_map ha e
    rw [this] at hal; simp at hal; omega
  unfold encStg at hd2 ⊢
  refine RunQ.slA 2 rfl hza rfl ?_
  repeat (first | (with_reducible (first | apply wA | ((fail_if_success (refine RunQ.seq (x := .region 3 _ _) ?_)); (apply wB)) | apply wC | apply wD | apply wE | apply wF | apply wG | apply wH | apply wI | apply wJ | apply wK | apply wL | apply wM | apply wN | apply wO | apply wP | apply wQ rfl | apply wR | apply wS | apply wT | apply wU)) | ((with_reducible (first | apply wV | apply wW | apply wX | (apply wY [] hTT cfMd_ok noM_ok mixed; (focus kernel_rfl)))); (focus (simp only [Tryz.f72, go_sem]; with_reducible rfl))) | ((fail_if_success (with_reducible show RunQ _ (.region 3 _ _) _ _)); (with_reducible refine wZ hTT cfMd_ok noM_ok ?_)) | (with_reducible refine wa ?_; refine And.intro ?_ ?_; (focus kernel_rfl)))
  refine RunQ.keep [12, 11, 10, 6, 5, 3, 4] (by simp only [go_sem]; rfl) ?_
  refine RunQ.loop (fun i s' => ∃ now : List Int, poseG ls now = true ∧ goesG s ls g a b l = goesG s ls g now b (l.drop i) ∧ s' = ⟨[(12, ii i), (11, pvA now), (10, .bool false), (6, .bp 1 0), (5, .bp 0 0), (3, .sl zb (b.map ii)), (4, .sl zl (l.map encT))], 72,
      [.var [ii s, .sl z (ls.map encLb)] false, .var [ii g.e.a, ii g.e.b, ii g.e.c, ii g.e.d, .sl zh (g.hs.map encFld), .sl zr (g.rs.map ii)] false]⟩) l.length ⟨a, hpa, rfl, rfl⟩ ?_
  rintro i _ hi ⟨now, hnp, hgo, rfl⟩
  have hdn : decIs1 (.sl .a (now.map ii)) = some now := decIs1_enc (by cases now <;> rfl)
  have hnl := (pose_at hnp).1
  by_cases hlt : i < l.length
  · obtain ⟨t, ht⟩ : ∃ t, l[i]? = some t := ⟨_, List.getElem?_eq_getElem hlt⟩
    have ht' : (l.map encT)[i]? = some (.agg [ii t.1, ii t.2]) := by rw [List.getElem?_map, ht]; rfl
    have hlt' : (i : Int) < l.length := by omega
    have hzl' : zl ≠ .n := fun e => by rw [hzl e] at hlt; simp at hlt
    have e4 : IntKind.i64.wrap ((i : Int) + 1) = ((i + 1 : Nat) : Int) := wrap_id (by omega) (by omega)
    rw [drop_get ht, goes_cc] at hgo
    have lT2 : ∀ m, ltBL m (l.map encT) = true := fun m => lT m _
    have lI : ∀ m (l : List Int), ltBL m (l.map ii) = true := fun m l => ltBL_of_closed m _ (closedL_is l)
    repeat (first | (with_reducible (first | apply wA | ((fail_if_success (refine RunQ.seq (x := .region 5 _ _) ?_)); (apply wB)) | apply wC | apply wD | apply wE | apply wF | apply wG | apply wH | apply wI | apply wJ | apply wK | apply wL | apply wM | apply wN | apply wO | apply wP | apply wQ rfl | apply wR | apply wS | apply wT | apply wU)) | ((with_reducible (first | apply wV | apply wW | apply wX | (apply wY [] hTT cfMd_ok noM_ok mixed; (focus kernel_rfl)))); (focus (simp only [Tryz.f72, hlt', List.length_map, go_sem]; with_reducible rfl))) | ((fail_if_success (with_reducible show RunQ _ (.region 5 _ _) _ _)); (with_reducible refine wZ hTT cfMd_ok noM_ok ?_)) | (with_reducible refine wa ?_; refine And.intro ?_ ?_; (focus kernel_rfl)))
    refine RunQ.keep [12, 11, 10, 6, 5, 3, 4] (by simp only [go_sem]; rfl) ?_
    cases h1 : limbG ls t.1
    · rw [h1] at hgo
      have hgo : goesG s ls g a b l = false := hgo
      rw [hgo]
      repeat (first | (with_reducible (first | apply wA | apply wB | apply wC | apply wD | apply wE | apply wF | apply wG | apply wH | apply wI | apply wJ | apply wK | apply wL | apply wM | apply wN | apply wO | apply wP | apply wQ rfl | apply wR | apply wS | apply wT | apply wU)) | ((with_reducible (first | apply wV | apply wW | apply wX | (apply wY [] hTT cfMd_ok noM_ok mixed; (focus kernel_rfl)))); (focus (simp only [Tryz.f72, cfMd, c88, hd, hs, closedL_lbs, hlt', ht', hzl', h1, List.length_map, go_sem]; with_reducible rfl))) | (with_reducible refine wZ hTT cfMd_ok noM_ok ?_) | (with_reducible refine wa ?_; refine And.intro ?_ ?_; (focus kernel_rfl)))
      exact ⟨rfl, rfl, _, rfl, rfl⟩
    by_cases h2 : t.2 = -1 ∨ t.2 = 1
    case neg =>
      have h3 : (t.2 != -1) = true := by simp; omega
      have h4 : (t.2 != 1) = true := by simp; omega
      have h5 : decide (t.2 = -1) = false := by simp; omega
      have h6 : decide (t.2 = 1) = false := by simp; omega
      rw [h5, h6, h1] at hgo
      have hgo : goesG s ls g a b l = false := hgo
      rw [hgo]
      repeat (first | (with_reducible (first | apply wA | apply wB | apply wC | apply wD | apply wE | apply wF | apply wG | apply wH | apply wI | apply wJ | apply wK | apply wL | apply wM | apply wN | apply wO | apply wP | apply wQ rfl | apply wR | apply wS | apply wT | apply wU)) | ((with_reducible (first | apply wV | apply wW | apply wX | (apply wY [] hTT cfMd_ok noM_ok mixed; (focus kernel_rfl)))); (focus (simp only [Tryz.f72, cfMd, c88, hd, hs, closedL_lbs, hlt', ht', hzl', h1, h3, h4, List.length_map, go_sem]; with_reducible rfl))) | (with_reducible refine wZ hTT cfMd_ok noM_ok ?_) | (with_reducible refine wa ?_; refine And.intro ?_ ?_; (focus kernel_rfl)))
      exact ⟨rfl, rfl, _, rfl, rfl⟩
    have hc : t ∈ candG ls.length := limb_cand.1 (by rw [h1]; rcases h2 with e | e <;> rw [e] <;> rfl)
    have htb := trnB_pose hf hnp hc
    have hgo' : goesG s ls g a b l = (poseG ls (trnG now t) && finG s ls g (trnG now t) && goesG s ls g (trnG now t) b (l.drop (i + 1))) := by
      rw [hgo, limb_cand.2 hc, Bool.true_and]
    have hdn2 : decL decI (now.map ii) = some now := decIs now
    have hqz : closedL ((trnG now t).map ii) = true := closedL_is _
    have hql : ((trnG now t).map ii).length = now.length := by rw [List.length_map, trn_len]
    refine RunQ.join (k0 := 2) ⟨[(45, .bool false), (12, ii i), (11, pvA now), (10, .bool false), (6, .bp 1 0), (5, .bp 0 0), (3, .sl zb (b.map ii)), (4, .sl zl (l.map encT))], 72, [.var [ii s, .sl z (ls.map encLb)] false, .var [ii g.e.a, ii g.e.b, ii g.e.c, ii g.e.d, .sl zh (g.hs.map encFld), .sl zr (g.rs.map ii)] false]⟩ rfl ?_ ?_
    · rcases h2 with h2 | h2
      · have h3 : (t.2 != -1) = false := by rw [h2]; rfl
        repeat (first | (with_reducible (first | apply wA | apply wB | apply wC | apply wD | apply wE | apply wF | apply wG | apply wH | apply wI | apply wJ | apply wK | apply wL | apply wM | apply wN | apply wO | apply wP | apply wQ rfl | apply wR | apply wS | apply wT | apply wU)) | ((with_reducible (first | apply wV | apply wW | apply wX | (apply wY [] hTT cfMd_ok noM_ok mixed; (focus kernel_rfl)))); (focus (simp only [Tryz.f72, cfMd, c88, hd, hs, closedL_lbs, hlt', ht', hzl', h1, h3, List.length_map, go_sem]; with_reducible rfl))) | (with_reducible refine wZ hTT cfMd_ok noM_ok ?_) | (with_reducible refine wa ?_; refine And.intro ?_ ?_; (focus kernel_rfl)))
        exact ⟨rfl, Back.cutB 2 [45, 12, 11, 10, 6, 5, 3, 4] (by simp only [lI, lT2, ltB_lbs, ltB_flds, ltB_is, ltB_isl, go_sem]) (by simp only [go_sem])⟩
      · have h3 : (t.2 != -1) = true := by rw [h2]; rfl
        have h4 : (t.2 != 1) = false := by rw [h2]; rfl
        repeat (first | (with_reducible (first | apply wA | apply wB | apply wC | apply wD | apply wE | apply wF | apply wG | apply wH | apply wI | apply wJ | apply wK | apply wL | apply wM | apply wN | apply wO | apply wP | apply wQ rfl | apply wR | apply wS | apply wT | apply wU)) | ((with_reducible (first | apply wV | apply wW | apply wX | (apply wY [] hTT cfMd_ok noM_ok mixed; (focus kernel_rfl)))); (focus (simp only [Tryz.f72, cfMd, c88, hd, hs, closedL_lbs, hlt', ht', hzl', h1, h3, h4, List.length_map, go_sem]; with_reducible rfl))) | (with_reducible refine wZ hTT cfMd_ok noM_ok ?_) | (with_reducible refine wa ?_; refine And.intro ?_ ?_; (focus kernel_rfl)))
        exact ⟨rfl, Back.cutB 2 [45, 12, 11, 10, 6, 5, 3, 4] (by simp only [lI, lT2, ltB_lbs, ltB_flds, ltB_is, ltB_isl, go_sem]) (by simp only [go_sem])⟩
    repeat (first | (with_reducible (first | apply wA | ((fail_if_success (refine RunQ.seq (x := .region 8 _ _) ?_)); (apply wB)) | apply wC | apply wD | apply wE | apply wF | apply wG | apply wH | apply wI | apply wJ | apply wK | apply wL | apply wM | apply wN | apply wO | apply wP | apply wQ rfl | apply wR | apply wS | apply wT | apply wU)) | ((with_reducible (first | apply wV | apply wW | apply wX | (apply wY [] hTT cfMd_ok noM_ok mixed; (focus kernel_rfl)))); (focus (simp only [Tryz.f72, cfMd, c145, conRow, ltB_is, ltB_isl, hlt', ht', hzl', hdn2, htb, trn_len, closedL_is, List.length_map, go_sem]; with_reducible rfl))) | ((fail_if_success (with_reducible show RunQ _ (.region 8 _ _) _ _)); (with_reducible refine wZ hTT cfMd_ok noM_ok ?_)) | (with_reducible refine wa ?_; refine And.intro ?_ ?_; (focus kernel_rfl)))
    refine RunQ.freeze 11 2 rfl rfl hql hqz rfl rfl ?_
    refine RunQ.keep [12, 11, 10, 6, 5, 3, 4] (by simp only [go_sem]; rfl) ?_
    have hdq := decIs1_enc (z := .a) (l := trnG now t) (by cases trnG now t <;> rfl)
    generalize trnG now t = q at hgo' hdq hqz ⊢
    cases hq1 : poseG ls q
    · rw [hq1] at hgo'
      have hgo' : goesG s ls g a b l = false := hgo'
      rw [hgo']
      repeat (first | (with_reducible (first | apply wA | apply wB | apply wC | apply wD | apply wE | apply wF | apply wG | apply wH | apply wI | apply wJ | apply wK | apply wL | apply wM | apply wN | apply wO | apply wP | apply wQ rfl | apply wR | apply wS | apply wT | apply wU)) | ((with_reducible (first | apply wV | apply wW | apply wX | (apply wY [] hTT cfMd_ok noM_ok mixed; (focus kernel_rfl)))); (focus (simp only [Tryz.f72, cfMd, c86, hd, hdq, hs2, hq1, go_sem]; with_reducible rfl))) | (with_reducible refine wZ hTT cfMd_ok noM_ok ?_) | (with_reducible refine wa ?_; refine And.intro ?_ ?_; (focus kernel_rfl)))
      exact ⟨rfl, rfl, _, rfl, rfl⟩
    have hfR : fineR s ls g q = .tuple [.bool (finG s ls g q), ii 0] := by unfold fineR; rw [if_pos ⟨hf, hg, hq1⟩]
    rw [hq1] at hgo'
    cases hq2 : finG s ls g q
    · rw [hq2] at hgo' hfR
      have hgo' : goesG s ls g a b l = false := hgo'
      rw [hgo']
      repeat (first | (with_reducible (first | apply wA | apply wB | apply wC | apply wD | apply wE | apply wF | apply wG | apply wH | apply wI | apply wJ | apply wK | apply wL | apply wM | apply wN | apply wO | apply wP | apply wQ rfl | apply wR | apply wS | apply wT | apply wU)) | ((with_reducible (first | apply wV | apply wW | apply wX | (apply wY [] hTT cfMd_ok noM_ok mixed; (focus kernel_rfl)))); (focus (simp only [Tryz.f72, cfMd, c86, c70, hd, hd2, hdq, hs2, hq1, hfR, bne_self_eq_false, go_sem]; with_reducible rfl))) | (with_reducible refine wZ hTT cfMd_ok noM_ok ?_) | (with_reducible refine wa ?_; refine And.intro ?_ ?_; (focus kernel_rfl)))
      exact ⟨rfl, rfl, _, rfl, rfl⟩
    rw [hq2] at hgo' hfR
    have hgo' : goesG s ls g a b l = goesG s ls g q b (l.drop (i + 1)) := hgo'
    have b00 : ((0 : Int) != 0) = false := rfl
    repeat (first | (with_reducible (first | apply wA | apply wB | apply wC | apply wD | apply wE | apply wF | apply wG | apply wH | apply wI | apply wJ | apply wK | apply wL | apply wM | apply wN | apply wO | apply wP | apply wQ rfl | apply wR | apply wS | apply wT | apply wU)) | ((with_reducible (first | apply wV | apply wW | apply wX | (apply wY [] hTT cfMd_ok noM_ok mixed; (focus kernel_rfl)))); (focus (simp only [Tryz.f72, cfMd, c86, c70, hd, hd2, hdq, hs2, hq1, hfR, b00, e4, go_sem]; with_reducible rfl))) | (with_reducible refine wZ hTT cfMd_ok noM_ok ?_) | (with_reducible refine wa ?_; refine And.intro ?_ ?_; (focus kernel_rfl)))
    refine roundQ.t 2 [12, 11, 10, 6, 5, 3, 4] hlt (by simp only [ltB_lbs, ltB_flds, ltB_is, ltB_isl, lI, lT2, go_sem]) ⟨q, hq1, hgo', by simp only [go_sem]⟩
  · have hlt' : ¬ (i : Int) < l.length := by omega
    rw [List.drop_eq_nil_of_le (by omega)] at hgo
    have hnx : now.length ≤ maxLen := by omega
    rw [hgo, goes_nil]
    repeat (first | (with_reducible (first | apply wA | apply wB | apply wC | apply wD | apply wE | apply wF | apply wG | apply wH | apply wI | apply wJ | apply wK | apply wL | apply wM | apply wN | apply wO | apply wP | apply wQ rfl | apply wR | apply wS | apply wT | apply wU)) | ((with_reducible (first | apply wV | apply wW | apply wX | (apply wY [] hTT cfMd_ok noM_ok mixed; (focus kernel_rfl)))); (focus (simp only [Tryz.f72, cfMd, c49, hdn, hdb, hnx, hlt', List.length_map, go_sem]; with_reducible rfl))) | (with_reducible refine wZ hTT cfMd_ok noM_ok ?_) | (with_reducible refine wa ?_; refine And.intro ?_ ?_; (focus kernel_rfl)))
    exact ⟨rfl, rfl, _, rfl, rfl⟩
def c72 : List PV → List Box → Option (PRes × List Box)
  | [v, w, p, q, r], sg => match decFig v, decStg w, decIs1 p, decIs1 q, decTs1 r with
    | some (s, ls), some g, some a, some b, some l => if figB s ls = true ∧ stgG ls g = true ∧ poseG ls a = true ∧ l.length ≤ 100000 then some (.ret (.bool (goesG s ls g a b l)), sg) else none
    | _, _, _, _, _ => none
  | _, _ => none
theorem c72_ok : ConOk Tryz.prog 72 c72 := ConOk.of0 (ent Tryz.func72 rfl) fun args sg r sg' h => by
  unfold c72 at h
  split at h <;> try (cases h; done)
  split at h <;> try (cases h; done)
  rename_i h1 h2 h3 h4 h5
  split at h <;> cases h
  rename_i hc
  obtain ⟨z, rfl, hz⟩ := decFig_inv h1
  obtain ⟨zh, zr, rfl, hh, hr⟩ := decStg_inv h2
  obtain ⟨zp, rfl, hp⟩ := decIs1_inv h3
  obtain ⟨zq, rfl, hq⟩ := decIs1_inv h4
  obtain ⟨zt, rfl, ht⟩ := decTs1_inv h5
  exact ⟨_, rfl, rfl, by rw [ltBL_cons, ltB_fig, ltBL_cons, ltB_stg, ltBL_cons, ltB_isl, ltBL_cons, ltB_isl, ltBL_cons, ltB_sl, lT]; rfl, goes_72 _ _ _ _ _ _ _ _ _ _ _ _ (zOk_n' hz) hh hr (zOk_n' hp) (zOk_n' hq) ht hc.1 hc.2.1 hc.2.2.1 hc.2.2.2⟩
theorem soon_cc (x y : Int × Int) (a b : List (Int × Int)) : soonG (x :: a) (y :: b) = if x = y then soonG a b else decide (x.1 < y.1) || (decide (x.1 = y.1) && decide (x.2 < y.2)) := rfl
theorem Sooner_73 (za zb : Z) (a b : List (Int × Int)) (ha : za = .n → a = []) (hb : zb = .n → b = []) (hs : a.length ≤ maxLen) : CallOk Tryz.prog 73 [.sl za (a.map encT), .sl zb (b.map encT)] [] (.ret (.bool (soonG a b))) [] := by
  refine CallOk.of0 hTT Tryz.func73 rfl rfl ?_
  unfold maxLen at hs
  repeat (first | (with_reducible (first | apply wA | apply wB | apply wC | apply wD | apply wE | apply wF | apply wG | apply wH | apply wI | apply wJ | apply wK | apply wL | apply wM | apply wN | apply wO | apply wP | apply wQ rfl | apply wR | apply wS | apply wT | apply wU)) | ((with_reducible (first | apply wV | apply wW | apply wX | (apply wY [] hTT cf0_ok noM_ok mixed; (focus kernel_rfl)))); (focus (simp only [Tryz.f73, go_sem]; with_reducible rfl))) | (with_reducible refine wZ hTT cf0_ok noM_ok ?_) | (with_reducible refine wa ?_; refine And.intro ?_ ?_; (focus kernel_rfl)))
  refine RunQ.keep [5, 4, 1, 0] (by simp only [go_sem]; rfl) ?_
  refine RunQ.loop (fun i s' => soonG a b = soonG (a.drop i) (b.drop i) ∧ i ≤ b.length ∧ s' = ⟨[(5, ii i), (4, .bool false), (0, .sl za (a.map encT)), (1, .sl zb (b.map encT))], 69, []⟩) a.length ⟨rfl, Nat.zero_le _, rfl⟩ ?_
  rintro i _ hi ⟨hm, hib, rfl⟩
  by_cases hlt : i < a.length
  · obtain ⟨x, hx⟩ : ∃ x, a[i]? = some x := ⟨_, List.getElem?_eq_getElem hlt⟩
    have hx' : (a.map encT)[i]? = some (.agg [ii x.1, ii x.2]) := by rw [List.getElem?_map, hx]; rfl
    have hlt' : (i : Int) < a.length := by omega
    have hza' : za ≠ .n := fun e => by rw [ha e] at hlt; simp at hlt
    have e4 : IntKind.i64.wrap ((i : Int) + 1) = ((i + 1 : Nat) : Int) := wrap_id (by omega) (by omega)
    by_cases hlb : i < b.length
    · obtain ⟨y, hy⟩ : ∃ y, b[i]? = some y := ⟨_, List.getElem?_eq_getElem hlb⟩
      have hy' : (b.map encT)[i]? = some (.agg [ii y.1, ii y.2]) := by rw [List.getElem?_map, hy]; rfl
      have hlb' : (i : Int) < b.length := by omega
      have hzb' : zb ≠ .n := fun e => by rw [hb e] at hlb; simp at hlb
      by_cases hxy : x = y
      · have h1 : (x.fst == y.fst && x.snd == y.snd) = true := by subst hxy; simp
        repeat (first | (with_reducible (first | apply wA | apply wB | apply wC | apply wD | apply wE | apply wF | apply wG | apply wH | apply wI | apply wJ | apply wK | apply wL | apply wM | apply wN | apply wO | apply wP | apply wQ rfl | apply wR | apply wS | apply wT | apply wU)) | ((with_reducible (first | apply wV | apply wW | apply wX | (apply wY [] hTT cf0_ok noM_ok mixed; (focus kernel_rfl)))); (focus (simp only [Tryz.f73, hx', hy', hlt', hlb', hza', hzb', e4, h1, List.length_map, go_sem]; with_reducible rfl))) | (with_reducible refine wZ hTT cf0_ok noM_ok ?_) | (with_reducible refine wa ?_; refine And.intro ?_ ?_; (focus kernel_rfl)))
        refine roundQ.t 0 [5, 4, 0, 1] hlt (by simp only [lT, go_sem]) ⟨by rw [hm, drop_get hx, drop_get hy, soon_cc, if_pos hxy], by omega, by simp only [go_sem]⟩
      · have h1 : (x.fst == y.fst && x.snd == y.snd) = false := by
          rw [Bool.eq_false_iff]
          intro h
          simp at h
          exact hxy (Prod.ext h.1 h.2)
        have hS : soonG a b = (decide (x.1 < y.1) || (decide (x.1 = y.1) && decide (x.2 < y.2))) := by rw [hm, drop_get hx, drop_get hy, soon_cc, if_neg hxy]
        rw [hS]
        by_cases k1 : x.1 < y.1
        · repeat (first | (with_reducible (first | apply wA | apply wB | apply wC | apply wD | apply wE | apply wF | apply wG | apply wH | apply wI | apply wJ | apply wK | apply wL | apply wM | apply wN | apply wO | apply wP | apply wQ rfl | apply wR | apply wS | apply wT | apply wU)) | ((with_reducible (first | apply wV | apply wW | apply wX | (apply wY [] hTT cf0_ok noM_ok mixed; (focus kernel_rfl)))); (focus (simp only [Tryz.f73, hx', hy', hlt', hlb', hza', hzb', h1, k1, List.length_map, go_sem]; with_reducible rfl))) | (with_reducible refine wZ hTT cf0_ok noM_ok ?_) | (with_reducible refine wa ?_; refine And.intro ?_ ?_; (focus kernel_rfl)))
          exact ⟨rfl, rfl, _, rfl, by rw [decide_eq_true k1]; rfl⟩
        by_cases k2 : x.1 = y.1
        · have k2' : (x.1 == y.1) = true := by simp [k2]
          have h1a : (x.snd == y.snd) = false := by
            rw [beq_eq_false_iff_ne]
            exact fun e => hxy (Prod.ext k2 e)
          by_cases k3 : x.2 < y.2
          · repeat (first | (with_reducible (first | apply wA | apply wB | apply wC | apply wD | apply wE | apply wF | apply wG | apply wH | apply wI | apply wJ | apply wK | apply wL | apply wM | apply wN | apply wO | apply wP | apply wQ rfl | apply wR | apply wS | apply wT | apply wU)) | ((with_reducible (first | apply wV | apply wW | apply wX | (apply wY [] hTT cf0_ok noM_ok mixed; (focus kernel_rfl)))); (focus (simp only [Tryz.f73, hx', hy', hlt', hlb', hza', hzb', h1, h1a, k1, k2', k3, List.length_map, go_sem]; with_reducible rfl))) | (with_reducible refine wZ hTT cf0_ok noM_ok ?_) | (with_reducible refine wa ?_; refine And.intro ?_ ?_; (focus kernel_rfl)))
            exact ⟨rfl, rfl, _, rfl, by rw [decide_eq_false k1, decide_eq_true k2, decide_eq_true k3]; rfl⟩
          · repeat (first | (with_reducible (first | apply wA | apply wB | apply wC | apply wD | apply wE | apply wF | apply wG | apply wH | apply wI | apply wJ | apply wK | apply wL | apply wM | apply wN | apply wO | apply wP | apply wQ rfl | apply wR | apply wS | apply wT | apply wU)) | ((with_reducible (first | apply wV | apply wW | apply wX | (apply wY [] hTT cf0_ok noM_ok mixed; (focus kernel_rfl)))); (focus (simp only [Tryz.f73, hx', hy', hlt', hlb', hza', hzb', h1, h1a, k1, k2', k3, List.length_map, go_sem]; with_reducible rfl))) | (with_reducible refine wZ hTT cf0_ok noM_ok ?_) | (with_reducible refine wa ?_; refine And.intro ?_ ?_; (focus kernel_rfl)))
            exact ⟨rfl, rfl, _, rfl, by rw [decide_eq_false k1, decide_eq_true k2, decide_eq_false k3]; rfl⟩
        · have k2' : (x.1 == y.1) = false := by simp [k2]
          repeat (first | (with_reducible (first | apply wA | apply wB | apply wC | apply wD | apply wE | apply wF | apply wG | apply wH | apply wI | apply wJ | apply wK | apply wL | apply wM | apply wN | apply wO | apply wP | apply wQ rfl | apply wR | apply wS | apply wT | apply wU)) | ((with_reducible (first | apply wV | apply wW | apply wX | (apply wY [] hTT cf0_ok noM_ok mixed; (focus kernel_rfl)))); (focus (simp only [Tryz.f73, hx', hy', hlt', hlb', hza', hzb', h1, k1, k2', List.length_map, go_sem]; with_reducible rfl))) | (with_reducible refine wZ hTT cf0_ok noM_ok ?_) | (with_reducible refine wa ?_; refine And.intro ?_ ?_; (focus kernel_rfl)))
          exact ⟨rfl, rfl, _, rfl, by rw [decide_eq_false k1, decide_eq_false k2]; rfl⟩
    · have hlb' : ¬ (i : Int) < b.length := by omega
      have hll : ¬ (a.length : Int) < b.length := by omega
      have hnb : b.drop i = [] := List.drop_eq_nil_of_le (by omega)
      repeat (first | (with_reducible (first | apply wA | apply wB | apply wC | apply wD | apply wE | apply wF | apply wG | apply wH | apply wI | apply wJ | apply wK | apply wL | apply wM | apply wN | apply wO | apply wP | apply wQ rfl | apply wR | apply wS | apply wT | apply wU)) | ((with_reducible (first | apply wV | apply wW | apply wX | (apply wY [] hTT cf0_ok noM_ok mixed; (focus kernel_rfl)))); (focus (simp only [Tryz.f73, hlt', hlb', hll, List.length_map, go_sem]; with_reducible rfl))) | (with_reducible refine wZ hTT cf0_ok noM_ok ?_) | (with_reducible refine wa ?_; refine And.intro ?_ ?_; (focus kernel_rfl)))
      refine ⟨rfl, rfl, _, rfl, ?_⟩
      rw [hm, drop_get hx, hnb]; rfl
  · have hlt' : ¬ (i : Int) < a.length := by omega
    obtain rfl : i = a.length := by omega
    have hnil : a.drop a.length = [] := List.drop_eq_nil_of_le (by omega)
    by_cases hll : a.length < b.length
    · have hll' : (a.length : Int) < b.length := by omega
      repeat (first | (with_reducible (first | apply wA | apply wB | apply wC | apply wD | apply wE | apply wF | apply wG | apply wH | apply wI | apply wJ | apply wK | apply wL | apply wM | apply wN | apply wO | apply wP | apply wQ rfl | apply wR | apply wS | apply wT | apply wU)) | ((with_reducible (first | apply wV | apply wW | apply wX | (apply wY [] hTT cf0_ok noM_ok mixed; (focus kernel_rfl)))); (focus (simp only [Tryz.f73, hlt', hll', List.length_map, go_sem]; with_reducible rfl))) | (with_reducible refine wZ hTT cf0_ok noM_ok ?_) | (with_reducible refine wa ?_; refine And.intro ?_ ?_; (focus kernel_rfl)))
      refine ⟨rfl, rfl, _, rfl, ?_⟩
      rw [hm, hnil]
      unfold soonG
      rw [decide_eq_true (by simp; omega)]; rfl
    · have hll' : ¬ (a.length : Int) < b.length := by omega
      repeat (first | (with_reducible (first | apply wA | apply wB | apply wC | apply wD | apply wE | apply wF | apply wG | apply wH | apply wI | apply wJ | apply wK | apply wL | apply wM | apply wN | apply wO | apply wP | apply wQ rfl | apply wR | apply wS | apply wT | apply wU)) | ((with_reducible (first | apply wV | apply wW | apply wX | (apply wY [] hTT cf0_ok noM_ok mixed; (focus kernel_rfl)))); (focus (simp only [Tryz.f73, hlt', hll', List.length_map, go_sem]; with_reducible rfl))) | (with_reducible refine wZ hTT cf0_ok noM_ok ?_) | (with_reducible refine wa ?_; refine And.intro ?_ ?_; (focus kernel_rfl)))
      refine ⟨rfl, rfl, _, rfl, ?_⟩
      rw [hm, hnil]
      unfold soonG
      rw [decide_eq_false (by simp; omega)]; rfl
def c73 : List PV → List Box → Option (PRes × List Box)
  | [a, b], sg => match decTs1 a, decTs1 b with
    | some a, some b => if a.length ≤ maxLen then some (.ret (.bool (soonG a b)), sg) else none
    | _, _ => none
  | _, _ => none
theorem c73_ok : ConOk Tryz.prog 73 c73 := ConOk.of0 (ent Tryz.func73 rfl) fun args sg r sg' h => by
  unfold c73 at h
  split at h <;> try (cases h; done)
  split at h <;> try (cases h; done)
  rename_i h1 h2
  split at h <;> cases h
  rename_i hc
  obtain ⟨za, rfl, ha⟩ := decTs1_inv h1
  obtain ⟨zb, rfl, hb⟩ := decTs1_inv h2
  exact ⟨_, rfl, rfl, by rw [ltBL_cons, ltB_sl, lT, ltBL_cons, ltB_sl, lT]; rfl, Sooner_73 _ _ _ _ ha hb hc⟩
end Go.Pv
