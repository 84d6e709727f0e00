/- Contracts: the reference's places in order: one place put in. -/
import Derived.Test.YtmnocohggpmjcaaGreatDoorQwOrdered
set_option linter.all false
namespace Go.Pv
open Go Go.RowKit Go.Proofs
set_option maxRecDepth 10000
set_option maxHeartbeats 4000000

theorem less_168 (a b : Pl) : CallOk Tryz.prog 168 [.agg [ii a.1, ii a.2], .agg [ii b.1, ii b.2]] [] (.ret (.bool (ltP a b))) [] := by
  refine CallOk.of0 hTT Tryz.func168 rfl rfl ?_
  unfold ltP
  by_cases h1 : a.1 < b.1
  · repeat (first | (with_reducible (first | refine wA ?_ | refine wB ?_ | refine wC ?_ | refine wD ?_ | refine wE ?_ | refine wF ?_ | refine wG ?_ | refine wH ?_ | refine wI ?_ | refine wJ ?_ | refine wK ?_ | refine wL ?_ | refine wM ?_ | refine wN ?_ | refine wO ?_ | refine wP ?_ | refine wQ rfl ?_ | refine wR ?_ | refine wS ?_ | refine wT ?_ | refine wU ?_)) | ((with_reducible (first | apply wV | apply wW | apply wX | (apply wY [] hTT cf0_ok noM_ok mixed; (focus kernel_rfl)))); (focus (simp only [Tryz.f168, h1, go_sem]; with_reducible rfl))) | (with_reducible refine wZ hTT cf0_ok noM_ok ?_) | (with_reducible refine wa ?_; refine And.intro ?_ ?_; (focus kernel_rfl)))
    exact ⟨rfl, rfl, _, rfl, by simp [h1]; rfl⟩
  · by_cases h2 : a.1 = b.1
    · have h2' : (a.1 == b.1) = true := by simp [h2]
      repeat (first | (with_reducible (first | refine wA ?_ | refine wB ?_ | refine wC ?_ | refine wD ?_ | refine wE ?_ | refine wF ?_ | refine wG ?_ | refine wH ?_ | refine wI ?_ | refine wJ ?_ | refine wK ?_ | refine wL ?_ | refine wM ?_ | refine wN ?_ | refine wO ?_ | refine wP ?_ | refine wQ rfl ?_ | refine wR ?_ | refine wS ?_ | refine wT ?_ | refine wU ?_)) | ((with_reducible (first | apply wV | apply wW | apply wX | (apply wY [] hTT cf0_ok noM_ok mixed; (focus kernel_rfl)))); (focus (simp only [Tryz.f168, h1, h2', go_sem]; with_reducible rfl))) | (with_reducible refine wZ hTT cf0_ok noM_ok ?_) | (with_reducible refine wa ?_; refine And.intro ?_ ?_; (focus kernel_rfl)))
      exact ⟨rfl, rfl, _, rfl, by simp [h2]; rfl⟩
    · have h2' : (a.1 == b.1) = false := by simp [h2]
      repeat (first | (with_reducible (first | refine wA ?_ | refine wB ?_ | refine wC ?_ | refine wD ?_ | refine wE ?_ | refine wF ?_ | refine wG ?_ | refine wH ?_ | refine wI ?_ | refine wJ ?_ | refine wK ?_ | refine wL ?_ | refine wM ?_ | refine wN ?_ | refine wO ?_ | refine wP ?_ | refine wQ rfl ?_ | refine wR ?_ | refine wS ?_ | refine wT ?_ | refine wU ?_)) | ((with_reducible (first | apply wV | apply wW | apply wX | (apply wY [] hTT cf0_ok noM_ok mixed; (focus kernel_rfl)))); (focus (simp only [Tryz.f168, h1, h2', go_sem]; with_reducible rfl))) | (with_reducible refine wZ hTT cf0_ok noM_ok ?_) | (with_reducible refine wa ?_; refine And.intro ?_ ?_; (focus kernel_rfl)))
      exact ⟨rfl, rfl, _, rfl, by simp [h1, h2]; rfl⟩
def c168 : List PV → List Box → Option (PRes × List Box)
  | [v, w], sg => match decPl v, decPl w with
    | some a, some b => some (.ret (.bool (ltP a b)), sg)
    | _, _ => none
  | _, _ => none
theorem c168_ok : ConOk Tryz.prog 168 c168 := ConOk.of0 (ent Tryz.func168 rfl) fun args sg r sg' h => by
  unfold c168 at h
  split at h <;> try (cases h; done)
  split at h <;> cases h
  rename_i h1 h2
  obtain rfl := decPl_inv _ _ h1
  obtain rfl := decPl_inv _ _ h2
  exact ⟨_, rfl, rfl, rfl, less_168 _ _⟩

/-- Where a place is put. -/
def posP : List Pl → Pl → Nat
  | [], _ => 0
  | q :: r, p => if ltP q p = true then posP r p + 1 else 0
theorem pos_le (p : Pl) : ∀ L : List Pl, posP L p ≤ L.length
  | [] => Nat.le_refl _
  | q :: r => by
    have := pos_le p r
    unfold posP
    split <;> simp <;> omega
theorem pos_lt {p : Pl} : ∀ (L : List Pl) (j : Nat) (q : Pl), j < posP L p → L[j]? = some q → ltP q p = true
  | [], j, q, _, h => by cases h
  | a :: r, j, q, hj, h => by
    unfold posP at hj
    split at hj
    · cases j with
      | zero => cases h; assumption
      | succ j => exact pos_lt r j q (by omega) h
    · omega
theorem pos_not {p : Pl} : ∀ (L : List Pl) (q : Pl), L[posP L p]? = some q → ¬ ltP q p = true
  | [], q, h => by cases h
  | a :: r, q, h => by
    unfold posP at h
    split at h
    · exact pos_not r q h
    · cases h; assumption
theorem put_pos (L : List Pl) (p : Pl) : putP L p = if L[posP L p]? = some p then L else L.take (posP L p) ++ p :: L.drop (posP L p) :=
  put_at L _ (pos_le p L) (pos_lt L) (pos_not L)
theorem put_ne (L : List Pl) (p : Pl) : putP L p ≠ [] := fun e => by
  have := (put_mem (x := p) (p := p) L).2 (.inr rfl)
  rw [e] at this
  cases this
def cfO6 : CallF := cfAdd cf0 168 c168
theorem cfO6_ok : CallFOk Tryz.prog cfO6 := cfAdd_ok cf0_ok c168_ok
theorem put_137 (z : Z) (L : List Pl) (p : Pl) (hz1 : z = .n → L = []) (hz2 : L ≠ [] → z = .a) (hL : L.length ≤ 100000) : CallOk Tryz.prog 137 [.sl z (L.map encPl), .agg [ii p.1, ii p.2]] [] (.ret (.sl .a ((putP L p).map encPl))) [] := by
  refine CallOk.ofF hTT Tryz.func137 rfl rfl ?_
  have hpl := pos_le p L
  have hpd : decPl (.agg [ii p.1, ii p.2]) = some p := rfl
  repeat (first | (with_reducible (first | refine wA ?_ | ((fail_if_success (refine RunQ.seq (x := .region 1 _ _) ?_)); (refine wB ?_)) | refine wC ?_ | refine wD ?_ | refine wE ?_ | refine wF ?_ | refine wG ?_ | refine wH ?_ | refine wI ?_ | refine wJ ?_ | refine wK ?_ | refine wL ?_ | refine wM ?_ | refine wN ?_ | refine wO ?_ | refine wP ?_ | refine wQ rfl ?_ | refine wR ?_ | refine wS ?_ | refine wT ?_ | refine wU ?_)) | ((with_reducible (first | apply wV | apply wW | apply wX | (apply wY [] hTT cfO6_ok noM_ok mixed; (focus kernel_rfl)))); (focus (simp only [Tryz.f137, go_sem]; with_reducible rfl))) | ((fail_if_success (with_reducible show RunQ _ (.region 1 _ _) _ _)); (with_reducible refine wZ hTT cfO6_ok noM_ok ?_)) | (with_reducible refine wa ?_; refine And.intro ?_ ?_; (focus kernel_rfl)))
  iterate 6 (first | (with_reducible (first | refine wA ?_ | refine wB ?_ | refine wC ?_ | refine wD ?_ | refine wE ?_ | refine wF ?_ | refine wG ?_ | refine wH ?_ | refine wI ?_ | refine wJ ?_ | refine wK ?_ | refine wL ?_ | refine wM ?_ | refine wN ?_ | refine wO ?_ | refine wP ?_ | refine wQ rfl ?_ | refine wR ?_ | refine wS ?_ | refine wT ?_ | refine wU ?_)) | ((with_reducible (first | apply wV | apply wW | apply wX | (apply wY [] hTT cfO6_ok noM_ok mixed; (focus kernel_rfl)))); (focus (simp only [Tryz.f137, go_sem]; with_reducible rfl))) | (with_reducible refine wZ hTT cfO6_ok noM_ok ?_) | (with_reducible refine wa ?_; refine And.intro ?_ ?_; (focus kernel_rfl)))
  refine RunQ.joinT ⟨[(5, ii (posP L p)), (3, .bp 0 0), (0, .sl z (L.map encPl))], 44, [.var [ii p.1, ii p.2] false]⟩ rfl ?_ ?_
  · repeat (first | (with_reducible (first | refine wA ?_ | refine wB ?_ | refine wC ?_ | refine wD ?_ | refine wE ?_ | refine wF ?_ | refine wG ?_ | refine wH ?_ | refine wI ?_ | refine wJ ?_ | refine wK ?_ | refine wL ?_ | refine wM ?_ | refine wN ?_ | refine wO ?_ | refine wP ?_ | refine wQ rfl ?_ | refine wR ?_ | refine wS ?_ | refine wT ?_ | refine wU ?_)) | ((with_reducible (first | apply wV | apply wW | apply wX | (apply wY [] hTT cfO6_ok noM_ok mixed; (focus kernel_rfl)))); (focus (simp only [Tryz.f137, go_sem]; with_reducible rfl))) | (with_reducible refine wZ hTT cfO6_ok noM_ok ?_) | (with_reducible refine wa ?_; refine And.intro ?_ ?_; (focus kernel_rfl)))
    refine RunQ.keep [5, 3, 0] (by simp only [go_sem]; rfl) ?_
    refine RunQ.loop (fun i s' => s' = ⟨[(5, ii i), (3, .bp 0 0), (0, .sl z (L.map encPl))], 44, [.var [ii p.1, ii p.2] false]⟩) (posP L p) rfl ?_
    rintro i _ hi rfl
    by_cases hlt : i < posP L p
    · obtain ⟨q, hq⟩ : ∃ q, L[i]? = some q := ⟨_, List.getElem?_eq_getElem (by omega)⟩
      have hq' : (L.map encPl)[i]? = some (.agg [ii q.1, ii q.2]) := map_get hq
      have hqd : decPl (.agg [ii q.1, ii q.2]) = some q := rfl
      have hqp := pos_lt L i q hlt hq
      have hil : (i : Int) < L.length := by omega
      have hzn : z ≠ .n := fun e => by rw [hz1 e] at hq; cases hq
      have e4 : IntKind.i64.wrap ((i : Int) + 1) = ((i + 1 : Nat) : Int) := wrap_id (by omega) (by omega)
      repeat (first | (with_reducible (first | refine wA ?_ | refine wB ?_ | refine wC ?_ | refine wD ?_ | refine wE ?_ | refine wF ?_ | refine wG ?_ | refine wH ?_ | refine wI ?_ | refine wJ ?_ | refine wK ?_ | refine wL ?_ | refine wM ?_ | refine wN ?_ | refine wO ?_ | refine wP ?_ | refine wQ rfl ?_ | refine wR ?_ | refine wS ?_ | refine wT ?_ | refine wU ?_)) | ((with_reducible (first | apply wV | apply wW | apply wX | (apply wY [] hTT cfO6_ok noM_ok mixed; (focus kernel_rfl)))); (focus (simp only [Tryz.f137, cfO6, c168, hpd, hqd, hqp, hil, hq', hzn, e4, closedL_is, List.length_map, go_sem]; with_reducible rfl))) | (with_reducible refine wZ hTT cfO6_ok noM_ok ?_) | (with_reducible refine wa ?_; refine And.intro ?_ ?_; (focus kernel_rfl)))
      refine roundQ.t 1 [5, 3, 0] hlt (by simp only [ltB_pls, go_sem]) (by simp only [go_sem])
    · obtain rfl : i = posP L p := by omega
      by_cases hil : posP L p < L.length
      · obtain ⟨q, hq⟩ : ∃ q, L[posP L p]? = some q := ⟨_, List.getElem?_eq_getElem hil⟩
        have hq' : (L.map encPl)[posP L p]? = some (.agg [ii q.1, ii q.2]) := map_get hq
        have hqd : decPl (.agg [ii q.1, ii q.2]) = some q := rfl
        have hqp : ltP q p = false := Bool.eq_false_iff.2 (pos_not L q hq)
        have hil' : ((posP L p : Nat) : Int) < L.length := by omega
        have hzn : z ≠ .n := fun e => by rw [hz1 e] at hq; cases hq
        repeat (first | (with_reducible (first | refine wA ?_ | refine wB ?_ | refine wC ?_ | refine wD ?_ | refine wE ?_ | refine wF ?_ | refine wG ?_ | refine wH ?_ | refine wI ?_ | refine wJ ?_ | refine wK ?_ | refine wL ?_ | refine wM ?_ | refine wN ?_ | refine wO ?_ | refine wP ?_ | refine wQ rfl ?_ | refine wR ?_ | refine wS ?_ | refine wT ?_ | refine wU ?_)) | ((with_reducible (first | apply wV | apply wW | apply wX | (apply wY [] hTT cfO6_ok noM_ok mixed; (focus kernel_rfl)))); (focus (simp only [Tryz.f137, cfO6, c168, hpd, hqd, hqp, hil', hq', hzn, closedL_is, List.length_map, go_sem]; with_reducible rfl))) | (with_reducible refine wZ hTT cfO6_ok noM_ok ?_) | (with_reducible refine wa ?_; refine And.intro ?_ ?_; (focus kernel_rfl)))
        exact ⟨rfl, Back.cutB 1 [5, 3, 0] (by simp only [ltB_pls, go_sem]) (by simp only [go_sem])⟩
      · have hil' : ¬ ((posP L p : Nat) : Int) < L.length := by omega
        repeat (first | (with_reducible (first | refine wA ?_ | refine wB ?_ | refine wC ?_ | refine wD ?_ | refine wE ?_ | refine wF ?_ | refine wG ?_ | refine wH ?_ | refine wI ?_ | refine wJ ?_ | refine wK ?_ | refine wL ?_ | refine wM ?_ | refine wN ?_ | refine wO ?_ | refine wP ?_ | refine wQ rfl ?_ | refine wR ?_ | refine wS ?_ | refine wT ?_ | refine wU ?_)) | ((with_reducible (first | apply wV | apply wW | apply wX | (apply wY [] hTT cfO6_ok noM_ok mixed; (focus kernel_rfl)))); (focus (simp only [Tryz.f137, cfO6, c168, hpd, hil', closedL_is, List.length_map, go_sem]; with_reducible rfl))) | (with_reducible refine wZ hTT cfO6_ok noM_ok ?_) | (with_reducible refine wa ?_; refine And.intro ?_ ?_; (focus kernel_rfl)))
        exact ⟨rfl, Back.cutB 1 [5, 3, 0] (by simp only [ltB_pls, go_sem]) (by simp only [go_sem])⟩
  · have hpa : (PV.agg [ii p.1, ii p.2]) = encPl p := rfl
    rw [put_pos]
    by_cases hat : L[posP L p]? = some p
    · rw [if_pos hat]
      have hil := (List.getElem?_eq_some_iff.1 hat).1
      have hil' : ((posP L p : Nat) : Int) < L.length := by omega
      have hq' : (L.map encPl)[posP L p]? = some (.agg [ii p.1, ii p.2]) := map_get hat
      have hLn : L ≠ [] := fun e => by rw [e] at hil; simp at hil
      have hza := hz2 hLn
      subst hza
      repeat (first | (with_reducible (first | refine wA ?_ | refine wB ?_ | refine wC ?_ | refine wD ?_ | refine wE ?_ | refine wF ?_ | refine wG ?_ | refine wH ?_ | refine wI ?_ | refine wJ ?_ | refine wK ?_ | refine wL ?_ | refine wM ?_ | refine wN ?_ | refine wO ?_ | refine wP ?_ | refine wQ rfl ?_ | refine wR ?_ | refine wS ?_ | refine wT ?_ | refine wU ?_)) | ((with_reducible (first | apply wV | apply wW | apply wX | (apply wY [] hTT cfO6_ok noM_ok mixed; (focus kernel_rfl)))); (focus (simp only [Tryz.f137, hil', hq', beq_self_eq_true, Bool.and_self, List.length_map, go_sem]; with_reducible rfl))) | (with_reducible refine wZ hTT cfO6_ok noM_ok ?_) | (with_reducible refine wa ?_; refine And.intro ?_ ?_; (focus kernel_rfl)))
      exact ⟨rfl, rfl, _, rfl, leave_closed (show closedL (L.map encPl) = true from closedL_map (fun _ => rfl) L)⟩
    · rw [if_neg hat]
      generalize hk : posP L p = k at hpl hat ⊢
      have hS1 : ((L.map encPl).take k) = (L.take k).map encPl := by rw [List.map_take]
      have hS2 : ((L.map encPl).drop k).take (L.length - k) = (L.drop k).map encPl := by
        rw [List.map_drop, List.take_of_length_le (by simp)]
      have hkL : (k : Int) ≤ L.length := by omega
      have hk0 : (0 : Int) ≤ k := by omega
      have hall : ∀ M : List Pl, ((M.map encPl).all fun y => y.cells.length == 2) = true := fun M => by
        rw [List.all_map, List.all_eq_true]
        exact fun _ _ => rfl
      have hLall := hall L
      have hAall := hall (L.take k)
      have hBall := hall (L.drop k)
      simp only [PV.cells] at hLall hAall hBall
      have hAl : ((L.take k).map encPl).length = k := by simp; omega
      have hBl : ((L.drop k).map encPl).length = L.length - k := by simp
      have hres : (L.take k ++ p :: L.drop k).map encPl = (L.take k).map encPl ++ [.agg [ii p.1, ii p.2]] ++ (L.drop k).map encPl := by simp; rfl
      have hcl : closedL ((L.take k).map encPl ++ [.agg [ii p.1, ii p.2]] ++ (L.drop k).map encPl) = true := by rw [← hres]; exact closedL_map (fun _ => rfl) _
      generalize hA : (L.take k).map encPl = A at *
      generalize hB : (L.drop k).map encPl = B at *
      rw [hres]
      have hAr : A.length ≤ 100000 := by omega
      have hBr : B.length ≤ 100000 := by omega
      have r1 : A.length * 16 ≤ 140737488355328 := by omega
      have r2 : A.length ≤ maxLen := by unfold maxLen; omega
      have r3 : (A.length + 1) * 16 ≤ 140737488355328 := by omega
      have r4 : A.length + 1 ≤ maxLen := by unfold maxLen; omega
      have r5 : (A.length + 1 + B.length) * 16 ≤ 140737488355328 := by omega
      have r6 : A.length + 1 + B.length ≤ maxLen := by unfold maxLen; omega
      have r7 : (1 + B.length) * 16 ≤ 140737488355328 := by omega
      have r8 : 1 + B.length ≤ maxLen := by unfold maxLen; omega
      by_cases hk1 : k = 0
      · by_cases hk2 : k = L.length
        · have hA0 : A = [] := by rw [← List.length_eq_zero_iff]; omega
          subst hA0
          have hB0 : B = [] := by rw [← List.length_eq_zero_iff]; omega
          subst hB0
          have hil : ¬ (k : Int) < L.length := by omega
          repeat (first | (with_reducible (first | refine wA ?_ | refine wB ?_ | refine wC ?_ | refine wD ?_ | refine wE ?_ | refine wF ?_ | refine wG ?_ | refine wH ?_ | refine wI ?_ | refine wJ ?_ | refine wK ?_ | refine wL ?_ | refine wM ?_ | refine wN ?_ | refine wO ?_ | refine wP ?_ | refine wQ rfl ?_ | refine wR ?_ | refine wS ?_ | refine wT ?_ | refine wU ?_)) | ((with_reducible (first | apply wV | apply wW | apply wX | (apply wY [] hTT cfO6_ok noM_ok mixed; (focus kernel_rfl)))); (focus (simp only [Tryz.f137, sliceFrz, sliceC, cutC, Int.toNat_natCast, hS1, hS2, hkL, hk0, hLall, r1, r2, r3, r4, r5, r6, r7, r8, List.isEmpty_nil, List.nil_append, List.isEmpty_nil, hil, List.length_map, List.length_append, List.drop_zero, Nat.sub_zero, go_sem]; with_reducible rfl))) | (with_reducible refine wZ hTT cfO6_ok noM_ok ?_) | (with_reducible refine wa ?_; refine And.intro ?_ ?_; (focus kernel_rfl)))
          refine ⟨rfl, rfl, _, rfl, ?_⟩
          rw [List.append_nil] at hcl ⊢
          show leaveC0 0 _ _ = (PV.sl .a ([.agg [ii p.1, ii p.2]]), [])
          exact leave_row (z := false) (id := 2) rfl hcl (by simp <;> omega)
        · have hA0 : A = [] := by rw [← List.length_eq_zero_iff]; omega
          subst hA0
          have hBe : B.isEmpty = false := by
            cases B with
            | nil => simp at hBl; omega
            | cons a r => rfl
          have hil : (k : Int) < L.length := by omega
          obtain ⟨q, hq⟩ : ∃ q, L[k]? = some q := ⟨_, List.getElem?_eq_getElem (by omega)⟩
          have hq' : (L.map encPl)[k]? = some (.agg [ii q.1, ii q.2]) := map_get hq
          have hqp : (q.1 == p.1 && q.2 == p.2) = false := by
            rw [Bool.eq_false_iff]
            intro h
            simp at h
            exact hat (by rw [hq, Prod.ext h.1 h.2])
          have hLn : L ≠ [] := fun e => by rw [e] at hq; cases hq
          have hza := hz2 hLn
          subst hza
          repeat (first | (with_reducible (first | refine wA ?_ | refine wB ?_ | refine wC ?_ | refine wD ?_ | refine wE ?_ | refine wF ?_ | refine wG ?_ | refine wH ?_ | refine wI ?_ | refine wJ ?_ | refine wK ?_ | refine wL ?_ | refine wM ?_ | refine wN ?_ | refine wO ?_ | refine wP ?_ | refine wQ rfl ?_ | refine wR ?_ | refine wS ?_ | refine wT ?_ | refine wU ?_)) | ((with_reducible (first | apply wV | apply wW | apply wX | (apply wY [] hTT cfO6_ok noM_ok mixed; (focus kernel_rfl)))); (focus (simp only [Tryz.f137, sliceFrz, sliceC, cutC, Int.toNat_natCast, hS1, hS2, hkL, hk0, hLall, r1, r2, r3, r4, r5, r6, r7, r8, List.isEmpty_nil, List.nil_append, hBe, hBall, hil, hq', hqp, List.length_map, List.length_append, List.drop_zero, Nat.sub_zero, go_sem]; with_reducible rfl))) | (with_reducible refine wZ hTT cfO6_ok noM_ok ?_) | (with_reducible refine wa ?_; refine And.intro ?_ ?_; (focus kernel_rfl)))
          refine ⟨rfl, rfl, _, rfl, ?_⟩
          show leaveC0 0 _ _ = (PV.sl .a ([.agg [ii p.1, ii p.2]] ++ B), [])
          exact leave_row (z := false) (id := 2) rfl hcl (by simp <;> omega)
      · by_cases hk2 : k = L.length
        · have hAe : A.isEmpty = false := by
            cases A with
            | nil => simp at hAl; omega
            | cons a r => rfl
          have hB0 : B = [] := by rw [← List.length_eq_zero_iff]; omega
          subst hB0
          have hil : ¬ (k : Int) < L.length := by omega
          repeat (first | (with_reducible (first | refine wA ?_ | refine wB ?_ | refine wC ?_ | refine wD ?_ | refine wE ?_ | refine wF ?_ | refine wG ?_ | refine wH ?_ | refine wI ?_ | refine wJ ?_ | refine wK ?_ | refine wL ?_ | refine wM ?_ | refine wN ?_ | refine wO ?_ | refine wP ?_ | refine wQ rfl ?_ | refine wR ?_ | refine wS ?_ | refine wT ?_ | refine wU ?_)) | ((with_reducible (first | apply wV | apply wW | apply wX | (apply wY [] hTT cfO6_ok noM_ok mixed; (focus kernel_rfl)))); (focus (simp only [Tryz.f137, sliceFrz, sliceC, cutC, Int.toNat_natCast, hS1, hS2, hkL, hk0, hLall, r1, r2, r3, r4, r5, r6, r7, r8, hAe, hAall, List.isEmpty_nil, hil, List.length_map, List.length_append, List.drop_zero, Nat.sub_zero, go_sem]; with_reducible rfl))) | (with_reducible refine wZ hTT cfO6_ok noM_ok ?_) | (with_reducible refine wa ?_; refine And.intro ?_ ?_; (focus kernel_rfl)))
          refine ⟨rfl, rfl, _, rfl, ?_⟩
          rw [List.append_nil] at hcl ⊢
          show leaveC0 0 _ _ = (PV.sl .a (A ++ [.agg [ii p.1, ii p.2]]), [])
          exact leave_row (z := false) (id := 1) rfl hcl (by simp <;> omega)
        · have hAe : A.isEmpty = false := by
            cases A with
            | nil => simp at hAl; omega
            | cons a r => rfl
          have hBe : B.isEmpty = false := by
            cases B with
            | nil => simp at hBl; omega
            | cons a r => rfl
          have hil : (k : Int) < L.length := by omega
          obtain ⟨q, hq⟩ : ∃ q, L[k]? = some q := ⟨_, List.getElem?_eq_getElem (by omega)⟩
          have hq' : (L.map encPl)[k]? = some (.agg [ii q.1, ii q.2]) := map_get hq
          have hqp : (q.1 == p.1 && q.2 == p.2) = false := by
            rw [Bool.eq_false_iff]
            intro h
            simp at h
            exact hat (by rw [hq, Prod.ext h.1 h.2])
          have hLn : L ≠ [] := fun e => by rw [e] at hq; cases hq
          have hza := hz2 hLn
          subst hza
          repeat (first | (with_reducible (first | refine wA ?_ | refine wB ?_ | refine wC ?_ | refine wD ?_ | refine wE ?_ | refine wF ?_ | refine wG ?_ | refine wH ?_ | refine wI ?_ | refine wJ ?_ | refine wK ?_ | refine wL ?_ | refine wM ?_ | refine wN ?_ | refine wO ?_ | refine wP ?_ | refine wQ rfl ?_ | refine wR ?_ | refine wS ?_ | refine wT ?_ | refine wU ?_)) | ((with_reducible (first | apply wV | apply wW | apply wX | (apply wY [] hTT cfO6_ok noM_ok mixed; (focus kernel_rfl)))); (focus (simp only [Tryz.f137, sliceFrz, sliceC, cutC, Int.toNat_natCast, hS1, hS2, hkL, hk0, hLall, r1, r2, r3, r4, r5, r6, r7, r8, hAe, hAall, hBe, hBall, hil, hq', hqp, List.length_map, List.length_append, List.drop_zero, Nat.sub_zero, go_sem]; with_reducible rfl))) | (with_reducible refine wZ hTT cfO6_ok noM_ok ?_) | (with_reducible refine wa ?_; refine And.intro ?_ ?_; (focus kernel_rfl)))
          refine ⟨rfl, rfl, _, rfl, ?_⟩
          rw [List.append_assoc] at hcl ⊢
          show leaveC0 0 _ _ = (PV.sl .a (A ++ ([.agg [ii p.1, ii p.2]] ++ B)), [])
          exact leave_row (z := false) (id := 1) rfl hcl (by simp <;> omega)
end Go.Pv
