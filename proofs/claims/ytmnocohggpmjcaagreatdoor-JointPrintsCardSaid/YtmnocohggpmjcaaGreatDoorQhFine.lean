import Derived.Test.YtmnocohggpmjcaaGreatDoorQgEnds
set_option linter.all false
namespace Go.Pv
open Go Go.RowKit Go.Proofs
set_option maxRecDepth 10000
set_option maxHeartbeats 4000000
def c141 : List PV → List Box → Option (PRes × List Box)
  | [v, .fn (.func 142) [] [.bp 0 0]], [.var [x0, x1, .int .i64 a, .int .i64 b, .int .i64 c, .int .i64 d, x6, x7] false] => match decPls1 v with
    | some l => if x0.ltB 1 = true ∧ x1.ltB 1 = true ∧ x6.ltB 1 = true ∧ x7.ltB 1 = true ∧ l.length ≤ maxLen then some (.ret (.bool (decide (0 ≤ offG ⟨a, b, c, d⟩ l 0))), [stgX x0 x1 x6 x7 ⟨a, b, c, d⟩]) else none
    | none => none
  | _, _ => none
theorem zOk_of {z : Z} {l : List Pl} (h : z = .n → l = []) : zOk z (l.map encPl) = true := by
  cases z
  · rw [h rfl]; rfl
  · rfl
  · rfl
theorem c141_ok : ConOk Tryz.prog 141 c141 := fun args sg r sg' h => by
  unfold c141 at h
  split at h <;> try (cases h; done)
  split at h <;> try (cases h; done)
  rename_i hp
  split at h <;> cases h
  rename_i hc
  obtain ⟨z, rfl, hz⟩ := decPls1_inv hp
  exact ⟨ent Tryz.func141 rfl, contains_141 _ _ hz (zOk_of hz) hc.2.2.2.2 _ _ _ _ _ hc.1 hc.2.1 hc.2.2.1 hc.2.2.2.1, SameLoops.refl _⟩
def cfJ : CallF := cfAdd (cfAdd (cfAdd cfF 143 c143) 87 c87) 141 c141
theorem cfJ_ok : CallFOk Tryz.prog cfJ := cfAdd_ok (cfAdd_ok (cfAdd_ok cfF_ok c143_ok) c87_ok) c141_ok
theorem zOk_n' {α : Type} {g : α → PV} {z : Z} {l : List α} (h : z = .n → l = []) : zOk z (l.map g) = true := by
  cases z
  · rw [h rfl]; rfl
  · rfl
  · rfl
theorem offG_all (f : Fld) : ∀ (l : List Pl) (i : Nat), decide (0 ≤ offG f l i) = !(l.all fun p => lieG p f)
  | [], i => rfl
  | p :: r, i => by
    rw [offG_cons, List.all_cons]
    cases h : lieG p f
    · simp
    · rw [if_pos rfl, offG_all f r (i + 1)]; rfl
/-- Whether a pose is fine. -/
def fineG (s : Int) (ls : List Lb) (ps : List Int) (f f0 f1 : Fld) (p0 p1 : Pl) : Bool := (ends s ls ps).all (fun p => lieG p f) && ((lieG p0 f0 && lieG p1 f1) || (lieG p0 f1 && lieG p1 f0))
theorem fine_97 (s : Int) (z zp zf zm : Z) (ls : List Lb) (ps : List Int) (f f0 f1 : Fld) (m0 m1 : Int) (p0 p1 : Pl) (hzo : zOk z (ls.map encLb) = true) (hzp : zOk zp (ps.map ii) = true) (hzf : zf ≠ .n) (hzm : zm ≠ .n) (hf : figB s ls = true) (hpo : poseG ls ps = true)
    (hm0 : 0 ≤ m0) (hm1 : 0 ≤ m1) (h0 : (ends s ls ps)[m0.toNat]? = some p0) (h1 : (ends s ls ps)[m1.toNat]? = some p1) (hlen : (ends s ls ps).length ≤ maxLen) :
    CallOk Tryz.prog 97 [.agg [ii s, .sl z (ls.map encLb), ii f.a, ii f.b, ii f.c, ii f.d, .sl zf [encFld f0, encFld f1], .sl zm [ii m0, ii m1]], .sl zp (ps.map ii)] [] (.ret (.bool (fineG s ls ps f f0 f1 p0 p1))) [] := by
  obtain ⟨fa, fb, fc, fd⟩ := f
  refine CallOk.of0 hTT Tryz.func97 rfl rfl ?_
  have hd := decFig_enc s z ls hzo
  have hd2 := decIs1_enc hzp
  have hd3 : decPls1 (.sl .a ((ends s ls ps).map encPl)) = some (ends s ls ps) := decPls1_enc rfl
  have hg0 : ((ends s ls ps).map encPl)[m0.toNat]? = some (.agg [ii p0.1, ii p0.2]) := map_get h0
  have hg1 : ((ends s ls ps).map encPl)[m1.toNat]? = some (.agg [ii p1.1, ii p1.2]) := map_get h1
  have hoff := offG_all ⟨fa, fb, fc, fd⟩ (ends s ls ps) 0
  unfold fineG
  cases ha : (ends s ls ps).all (fun p => lieG p ⟨fa, fb, fc, fd⟩)
  · rw [ha] at hoff
    repeat (first | (with_reducible (first | apply wA | apply wB | apply wC | apply wD | apply wE | apply wF | apply wG | apply wH | apply wI | apply wJ | apply wK | apply wL | apply wM | apply wN | apply wO | apply wP | apply wQ rfl | apply wR | apply wS | apply wT | apply wU)) | ((with_reducible (first | apply wV | apply wW | apply wX | (apply wY [] hTT cfJ_ok noM_ok mixed; (focus kernel_rfl)))); (focus (simp only [Tryz.f97, cfJ, c87, c141, hd, hd2, hd3, hf, hpo, hlen, hoff, ltB_lbs, ltB_is, ltB_int, ltB_sl, encFld, ltBL_cons, ltBL_nil, ltB_agg, ltB_flds, stgX, notYield, go_sem]; rfl))) | (with_reducible refine wZ hTT cfJ_ok noM_ok ?_) | (with_reducible refine wa ?_; refine And.intro ?_ ?_; (focus kernel_rfl)))
    exact ⟨rfl, rfl, _, rfl, rfl⟩
  · rw [ha] at hoff
    have hlt0 : m0 < (ends s ls ps).length := by have := (List.getElem?_eq_some_iff.1 h0).1; omega
    have hlt1 : m1 < (ends s ls ps).length := by have := (List.getElem?_eq_some_iff.1 h1).1; omega
    repeat (first | (with_reducible (first | apply wA | ((fail_if_success (refine RunQ.seq (x := .region 6 _ _) ?_)); (apply wB)) | apply wC | apply wD | apply wE | apply wF | apply wG | apply wH | apply wI | apply wJ | apply wK | apply wL | apply wM | apply wN | apply wO | apply wP | apply wQ rfl | apply wR | apply wS | apply wT | apply wU)) | ((with_reducible (first | apply wV | apply wW | apply wX | (apply wY [] hTT cfJ_ok noM_ok mixed; (focus kernel_rfl)))); (focus (simp only [Tryz.f97, cfJ, c87, c141, c143, decPl, decFld, hd, hd2, hd3, hf, hpo, hlen, hoff, hg0, hg1, hm0, hm1, hlt0, hlt1, hzf, hzm, ltB_lbs, ltB_is, ltB_int, ltB_sl, encFld, ltBL_cons, ltBL_nil, ltB_agg, ltB_flds, stgX, notYield, go_sem]; rfl))) | ((fail_if_success (with_reducible show RunQ _ (.region 6 _ _) _ _)); (with_reducible refine wZ hTT cfJ_ok noM_ok ?_)) | (with_reducible refine wa ?_; refine And.intro ?_ ?_; (focus kernel_rfl)))
    have e1 : lieG (p0.1, p0.2) ⟨f0.a, f0.b, f0.c, f0.d⟩ = lieG p0 f0 := rfl
    have e2 : lieG (p1.1, p1.2) ⟨f1.a, f1.b, f1.c, f1.d⟩ = lieG p1 f1 := rfl
    have e3 : lieG (p0.1, p0.2) ⟨f1.a, f1.b, f1.c, f1.d⟩ = lieG p0 f1 := rfl
    have e4 : lieG (p1.1, p1.2) ⟨f0.a, f0.b, f0.c, f0.d⟩ = lieG p1 f0 := rfl
    cases a1 : lieG p0 f0
    · cases a3 : lieG p0 f1
      · repeat (first | (with_reducible (first | apply wA | apply wB | apply wC | apply wD | apply wE | apply wF | apply wG | apply wH | apply wI | apply wJ | apply wK | apply wL | apply wM | apply wN | apply wO | apply wP | apply wQ rfl | apply wR | apply wS | apply wT | apply wU)) | ((with_reducible (first | apply wV | apply wW | apply wX | (apply wY [] hTT cfJ_ok noM_ok mixed; (focus kernel_rfl)))); (focus (simp only [Tryz.f97, cfJ, c143, decPl, decFld, e1, e2, e3, e4, a1, a3, go_sem]; rfl))) | (with_reducible refine wZ hTT cfJ_ok noM_ok ?_) | (with_reducible refine wa ?_; refine And.intro ?_ ?_; (focus kernel_rfl)))
        exact ⟨rfl, rfl, _, rfl, rfl⟩
      · cases a4 : lieG p1 f0
        · repeat (first | (with_reducible (first | apply wA | apply wB | apply wC | apply wD | apply wE | apply wF | apply wG | apply wH | apply wI | apply wJ | apply wK | apply wL | apply wM | apply wN | apply wO | apply wP | apply wQ rfl | apply wR | apply wS | apply wT | apply wU)) | ((with_reducible (first | apply wV | apply wW | apply wX | (apply wY [] hTT cfJ_ok noM_ok mixed; (focus kernel_rfl)))); (focus (simp only [Tryz.f97, cfJ, c143, decPl, decFld, e1, e2, e3, e4, a1, a3, a4, go_sem]; rfl))) | (with_reducible refine wZ hTT cfJ_ok noM_ok ?_) | (with_reducible refine wa ?_; refine And.intro ?_ ?_; (focus kernel_rfl)))
          exact ⟨rfl, rfl, _, rfl, rfl⟩
        · repeat (first | (with_reducible (first | apply wA | apply wB | apply wC | apply wD | apply wE | apply wF | apply wG | apply wH | apply wI | apply wJ | apply wK | apply wL | apply wM | apply wN | apply wO | apply wP | apply wQ rfl | apply wR | apply wS | apply wT | apply wU)) | ((with_reducible (first | apply wV | apply wW | apply wX | (apply wY [] hTT cfJ_ok noM_ok mixed; (focus kernel_rfl)))); (focus (simp only [Tryz.f97, cfJ, c143, decPl, decFld, e1, e2, e3, e4, a1, a3, a4, go_sem]; rfl))) | (with_reducible refine wZ hTT cfJ_ok noM_ok ?_) | (with_reducible refine wa ?_; refine And.intro ?_ ?_; (focus kernel_rfl)))
          exact ⟨rfl, rfl, _, rfl, rfl⟩
    · cases a2 : lieG p1 f1
      · cases a3 : lieG p0 f1
        · repeat (first | (with_reducible (first | apply wA | apply wB | apply wC | apply wD | apply wE | apply wF | apply wG | apply wH | apply wI | apply wJ | apply wK | apply wL | apply wM | apply wN | apply wO | apply wP | apply wQ rfl | apply wR | apply wS | apply wT | apply wU)) | ((with_reducible (first | apply wV | apply wW | apply wX | (apply wY [] hTT cfJ_ok noM_ok mixed; (focus kernel_rfl)))); (focus (simp only [Tryz.f97, cfJ, c143, decPl, decFld, e1, e2, e3, e4, a1, a2, a3, go_sem]; rfl))) | (with_reducible refine wZ hTT cfJ_ok noM_ok ?_) | (with_reducible refine wa ?_; refine And.intro ?_ ?_; (focus kernel_rfl)))
          exact ⟨rfl, rfl, _, rfl, rfl⟩
        · cases a4 : lieG p1 f0
          · repeat (first | (with_reducible (first | apply wA | apply wB | apply wC | apply wD | apply wE | apply wF | apply wG | apply wH | apply wI | apply wJ | apply wK | apply wL | apply wM | apply wN | apply wO | apply wP | apply wQ rfl | apply wR | apply wS | apply wT | apply wU)) | ((with_reducible (first | apply wV | apply wW | apply wX | (apply wY [] hTT cfJ_ok noM_ok mixed; (focus kernel_rfl)))); (focus (simp only [Tryz.f97, cfJ, c143, decPl, decFld, e1, e2, e3, e4, a1, a2, a3, a4, go_sem]; rfl))) | (with_reducible refine wZ hTT cfJ_ok noM_ok ?_) | (with_reducible refine wa ?_; refine And.intro ?_ ?_; (focus kernel_rfl)))
            exact ⟨rfl, rfl, _, rfl, rfl⟩
          · repeat (first | (with_reducible (first | apply wA | apply wB | apply wC | apply wD | apply wE | apply wF | apply wG | apply wH | apply wI | apply wJ | apply wK | apply wL | apply wM | apply wN | apply wO | apply wP | apply wQ rfl | apply wR | apply wS | apply wT | apply wU)) | ((with_reducible (first | apply wV | apply wW | apply wX | (apply wY [] hTT cfJ_ok noM_ok mixed; (focus kernel_rfl)))); (focus (simp only [Tryz.f97, cfJ, c143, decPl, decFld, e1, e2, e3, e4, a1, a2, a3, a4, go_sem]; rfl))) | (with_reducible refine wZ hTT cfJ_ok noM_ok ?_) | (with_reducible refine wa ?_; refine And.intro ?_ ?_; (focus kernel_rfl)))
            exact ⟨rfl, rfl, _, rfl, rfl⟩
      · repeat (first | (with_reducible (first | apply wA | apply wB | apply wC | apply wD | apply wE | apply wF | apply wG | apply wH | apply wI | apply wJ | apply wK | apply wL | apply wM | apply wN | apply wO | apply wP | apply wQ rfl | apply wR | apply wS | apply wT | apply wU)) | ((with_reducible (first | apply wV | apply wW | apply wX | (apply wY [] hTT cfJ_ok noM_ok mixed; (focus kernel_rfl)))); (focus (simp only [Tryz.f97, cfJ, c143, decPl, decFld, e1, e2, e3, e4, a1, a2, go_sem]; rfl))) | (with_reducible refine wZ hTT cfJ_ok noM_ok ?_) | (with_reducible refine wa ?_; refine And.intro ?_ ?_; (focus kernel_rfl)))
        exact ⟨rfl, rfl, _, rfl, rfl⟩
def c97 : List PV → List Box → Option (PRes × List Box)
  | [.agg [.int .i64 s, .sl z es, .int .i64 a, .int .i64 b, .int .i64 c, .int .i64 d, .sl zf [g0, g1], .sl zm [.int .i64 m0, .int .i64 m1]], p], sg => match decFig (.agg [ii s, .sl z es]), decIs1 p, decFld g0, decFld g1 with
    | some (s', ls), some ps, some f0, some f1 => if figB s' ls = true ∧ poseG ls ps = true ∧ 0 ≤ m0 ∧ 0 ≤ m1 ∧ zf ≠ .n ∧ zm ≠ .n ∧ s' = s ∧ (ends s ls ps).length ≤ maxLen then match (ends s ls ps)[m0.toNat]?, (ends s ls ps)[m1.toNat]? with
        | some p0, some p1 => some (.ret (.bool (fineG s ls ps ⟨a, b, c, d⟩ f0 f1 p0 p1)), sg)
        | _, _ => none
      else none
    | _, _, _, _ => none
  | _, _ => none
theorem c97_ok : ConOk Tryz.prog 97 c97 := ConOk.of0 (ent Tryz.func97 rfl) fun args sg r sg' h => by
  unfold c97 at h
  split at h <;> try (cases h; done)
  split at h <;> try (cases h; done)
  rename_i h1 h2 h3 h4
  split at h <;> try (cases h; done)
  rename_i hc
  split at h <;> cases h
  rename_i e0 e1
  obtain ⟨z, hz, hzn⟩ := decFig_inv h1
  obtain ⟨zp, rfl, hzp⟩ := decIs1_inv h2
  obtain rfl := decFld_inv _ _ h3
  obtain rfl := decFld_inv _ _ h4
  obtain ⟨c1, c2, c3, c4, c5, c6, rfl, c8⟩ := hc
  simp only [PV.agg.injEq, List.cons.injEq, PV.sl.injEq, and_true, true_and] at hz
  obtain ⟨rfl, rfl⟩ := hz
  have hzn' : zOk _ (List.map encLb _) = true := zOk_n' hzn
  refine ⟨_, rfl, rfl, ?_, fine_97 _ _ _ _ _ _ _ ⟨_, _, _, _⟩ _ _ _ _ _ _ hzn' (zOk_n' hzp) c5 c6 c1 c2 c3 c4 e0 e1 c8⟩
  simp only [ltBL_cons, ltB_agg, ltB_int, ltB_sl, ltB_lbs, ltB_is, ltBL_nil, encFld, Bool.and_true]
end Go.Pv
