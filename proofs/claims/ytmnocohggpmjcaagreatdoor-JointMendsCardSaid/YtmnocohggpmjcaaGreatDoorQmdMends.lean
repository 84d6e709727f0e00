/- Contracts: all lists of so many joints, the reference's. -/
import Derived.Test.YtmnocohggpmjcaaGreatDoorQmdComb
import Derived.Test.YtmnocohggpmjcaaGreatDoorQtA
import Derived.Test.YtmnocohggpmjcaaGreatDoorQnC
import Derived.Test.YtmnocohggpmjcaaGreatDoorQuRef
import Derived.Test.YtmnocohggpmjcaaGreatDoorQxLoose
set_option linter.all false
namespace Go.Pv
open Go Go.RowKit Go.Proofs
set_option maxRecDepth 200000
set_option maxHeartbeats 8000000
def zM : Nat → Z
  | 0 => .n
  | 1 => .f
  | _ + 2 => .a
def lsE (m : Nat) (c : List Int) : PV := .sl (zM m) (c.map ii)
theorem lsE_closed (m : Nat) (c : List Int) : (lsE m c).closed = true := closedL_is c
theorem closedL_ls (m : Nat) (l : List (List Int)) : closedL (l.map (lsE m)) = true := closedL_map (lsE_closed m) l
theorem ltB_ls (k m : Nat) (l : List (List Int)) : ltBL k (l.map (lsE m)) = true := ltBL_of_closed k _ (closedL_ls m l)
def lsR (n m f : Nat) : PV := .sl (if m = 0 then .f else if (combF n m f).length = 0 then .n else .a) ((combF n m f).map (lsE m))
theorem comb_len {n : Nat} : ∀ (m f : Nat) (c : List Int), c ∈ combF n m f → c.length = m
  | 0, f, c, h => by
    have : c = [] := by simpa [combF] using h
    subst this; rfl
  | m + 1, f, c, h => by
    have h : c ∈ (List.range' f (n - f)).flatMap fun (i : Nat) => (combF n m (i + 1)).map fun c => (i : Int) :: c := h
    obtain ⟨i, _, hc⟩ := List.mem_flatMap.1 h
    obtain ⟨c', hc', rfl⟩ := List.mem_map.1 hc
    rw [List.length_cons, comb_len m (i + 1) c' hc']
theorem comb_card {n : Nat} (hn : n ≤ 6) : ∀ (m f : Nat), (combF n m f).length ≤ 6 ^ m
  | 0, f => by simp [combF]
  | m + 1, f => by
    have h2 := flatMap_le (fun (i : Nat) => (combF n m (i + 1)).map fun c => (i : Int) :: c) (6 ^ m) (List.range' f (n - f)) fun i _ => by
      rw [List.length_map]; exact comb_card hn m (i + 1)
    show ((List.range' f (n - f)).flatMap fun (i : Nat) => (combF n m (i + 1)).map fun c => (i : Int) :: c).length ≤ 6 ^ (m + 1)
    rw [Nat.pow_succ, Nat.mul_comm]
    refine Nat.le_trans h2 (Nat.mul_le_mul_right _ ?_)
    rw [List.length_range']; omega
/-- What was built so far. -/
def combP (n m f k : Nat) : List (List Int) := (List.range' f k).flatMap fun (i : Nat) => (combF n m (i + 1)).map fun c => (i : Int) :: c
theorem combP_all (n m f : Nat) : combP n m f (n - f) = combF n (m + 1) f := rfl
theorem combP_step (n m f k : Nat) : combP n m f (k + 1) = combP n m f k ++ (combF n m (f + k + 1)).map fun c => ((f + k : Nat) : Int) :: c := by
  unfold combP
  rw [List.range'_1_concat, List.flatMap_append]
  simp
theorem combP_card {n m f k : Nat} (hn : n ≤ 6) (hk : k ≤ 6) : (combP n m f k).length ≤ 6 ^ (m + 1) := by
  have h2 := flatMap_le (fun (i : Nat) => (combF n m (i + 1)).map fun c => (i : Int) :: c) (6 ^ m) (List.range' f k) fun i _ => by
    rw [List.length_map]; exact comb_card hn m (i + 1)
  rw [Nat.pow_succ, Nat.mul_comm]
  refine Nat.le_trans h2 (Nat.mul_le_mul_right _ ?_)
  rw [List.length_range']; exact hk
theorem lists_118 (s : Int) (z : Z) (ls : List Lb) (hzo : zOk z (ls.map encLb) = true) (hn : 1 ≤ ls.length ∧ ls.length ≤ 5) : ∀ (m f : Nat), m ≤ 5 → f ≤ ls.length →
    CallOk Tryz.prog 118 [.agg [ii s, .sl z (ls.map encLb)], ii (f : Nat), ii (m : Nat)] [] (.ret (lsR ls.length m f)) []
  | 0, f, _, hf => by
    refine CallOk.ofF hTT Tryz.func118 rfl rfl ?_
    repeat (first | (with_reducible (first | apply wA | apply wB | apply wC | apply wD | apply wE | apply wF | apply wG | apply wH | apply wI | apply wJ | apply wK | apply wL | apply wM | apply wN | apply wO | apply wP | apply wQ rfl | apply wR | apply wS | apply wT | apply wU)) | ((with_reducible (first | apply wV | apply wW | apply wX | (apply wY [] hTT cf0_ok noM_ok mixed; (focus kernel_rfl)))); (focus (simp only [Tryz.f118, go_sem]; with_reducible rfl))) | (with_reducible refine wZ hTT cf0_ok noM_ok ?_) | (with_reducible refine wa ?_; refine And.intro ?_ ?_; (focus kernel_rfl)))
    exact ⟨rfl, rfl, _, rfl, leave_closed rfl⟩
  | m + 1, f, hm, hf => by
    have IH := lists_118 s z ls hzo hn m
    refine CallOk.ofF hTT Tryz.func118 rfl rfl ?_
    have hm1 : (((m + 1 : Nat) : Int) == 0) = false := by simp; omega
    have e7 : IntKind.i64.wrap (((m + 1 : Nat) : Int) - 1) = (m : Int) := (wrap_id (by omega) (by omega)).trans (by omega)
    have hz' : z ≠ .n := fun e => by
      have := zOk_map hzo e
      rw [this] at hn
      simp at hn
    generalize ((m + 1 : Nat) : Int) = mi at hm1 e7
    repeat (first | (with_reducible (first | apply wA | apply wB | apply wC | apply wD | apply wE | apply wF | apply wG | apply wH | apply wI | apply wJ | apply wK | apply wL | apply wM | apply wN | apply wO | apply wP | apply wQ rfl | apply wR | apply wS | apply wT | apply wU)) | ((with_reducible (first | apply wV | apply wW | apply wX | (apply wY [] hTT cf0_ok noM_ok mixed; (focus kernel_rfl)))); (focus (simp only [Tryz.f118, hm1, go_sem]; with_reducible rfl))) | (with_reducible refine wZ hTT cf0_ok noM_ok ?_) | (with_reducible refine wa ?_; refine And.intro ?_ ?_; (focus kernel_rfl)))
    refine RunQ.keep [8, 7, 6, 3, 2] (by simp only [go_sem]; rfl) ?_
    refine RunQ.nilRow 7 25 1 (by simp only [go_sem]) (by simp only [go_sem]; rfl) (by simp only [go_sem]; rfl) ?_
    refine RunQ.loop (fun k s' => f + k ≤ ls.length ∧ s' = ⟨[(8, ii ((f + k : Nat) : Int)), (7, .ms 1 (combP ls.length m f k).length), (6, .sl .n []), (3, .bp 0 0), (2, ii mi)], 45, [.var [ii s, .sl z (ls.map encLb)] false, .row (decide ((combP ls.length m f k).length = 0)) 25 1 ((combP ls.length m f k).map (lsE (m + 1))) false]⟩) (ls.length - f) ⟨by omega, rfl⟩ ?_
    rintro k _ hk ⟨hfk, rfl⟩
    have h6 : 6 ^ (m + 1) ≤ 46656 := Nat.le_trans (Nat.pow_le_pow_right (by decide) (by omega)) (by decide : 6 ^ 6 ≤ 46656)
    have hPl : (combP ls.length m f k).length ≤ 46656 := Nat.le_trans (combP_card (by omega) (by omega)) h6
    by_cases hlt : k < ls.length - f
    · have hlt' : ((f + k : Nat) : Int) < ls.length := by omega
      have e4 : IntKind.i64.wrap (((f + k : Nat) : Int) + 1) = ((f + k + 1 : Nat) : Int) := wrap_id (by omega) (by omega)
      have hst := combP_step ls.length m f k
      have hc := IH (f + k + 1) (by omega) (by omega)
      have hltb : ltBL 0 [PV.agg [ii s, .sl z (ls.map encLb)], ii ((f + k + 1 : Nat) : Int), ii (m : Nat)] = true := by rw [ltBL_cons, ltB_fig]; rfl
      have hCl := comb_card (n := ls.length) (by omega) m (f + k + 1)
      have h6' : 6 ^ m ≤ 46656 := Nat.le_trans (Nat.pow_le_pow_right (by decide) (by omega)) (by decide : 6 ^ 6 ≤ 46656)
      have hcln := comb_len (n := ls.length) m (f + k + 1)
      have hR : lsR ls.length m (f + k + 1) = .sl (if m = 0 then .f else if (combF ls.length m (f + k + 1)).length = 0 then .n else .a) ((combF ls.length m (f + k + 1)).map (lsE m)) := rfl
      have hzc : (if m = 0 then Z.f else if (combF ls.length m (f + k + 1)).length = 0 then .n else .a) = .n → combF ls.length m (f + k + 1) = [] := fun e => by
        split at e
        · cases e
        · split at e
          · rename_i h0
            exact List.length_eq_zero_iff.1 h0
          · cases e
      rw [hR] at hc
      generalize (if m = 0 then Z.f else if (combF ls.length m (f + k + 1)).length = 0 then .n else .a) = zc at hc hzc
      generalize combF ls.length m (f + k + 1) = C at hst hc hCl hcln hzc
      generalize combP ls.length m f k = N at hst hPl ⊢
      repeat (first | (with_reducible (first | apply wA | ((fail_if_success (refine RunQ.seq (x := .region 8 _ _) ?_)); (apply wB)) | apply wC | apply wD | apply wE | apply wF | apply wG | apply wH | apply wI | apply wJ | apply wK | apply wL | apply wM | apply wN | apply wO | apply wP | apply wQ rfl | apply wR | apply wS | apply wT | apply wU)) | ((with_reducible (first | apply wV | apply wW | apply wX | (apply wY [] hTT (cfAt_ok cf0_ok (ent Tryz.func118 rfl) hc hltb) noM_ok mixed; (focus kernel_rfl)))); (focus (simp only [Tryz.f118, cfAt, hlt', hz', e4, e7, List.length_map, go_sem]; with_reducible rfl))) | ((fail_if_success (with_reducible show RunQ _ (.region 8 _ _) _ _)); (with_reducible refine wZ hTT (cfAt_ok cf0_ok (ent Tryz.func118 rfl) hc hltb) noM_ok ?_)) | (with_reducible refine wa ?_; refine And.intro ?_ ?_; (focus kernel_rfl)))
      refine RunQ.keep [9, 8, 7, 6, 3, 2] (by simp only [go_sem]; rfl) ?_
      repeat (first | (with_reducible (first | apply wA | apply wB | apply wC | apply wD | apply wE | apply wF | apply wG | apply wH | apply wI | apply wJ | apply wK | apply wL | apply wM | apply wN | apply wO | apply wP | apply wQ rfl | apply wR | apply wS | apply wT | apply wU)) | ((with_reducible (first | apply wV | apply wW | apply wX | (apply wY [] hTT cf0_ok noM_ok mixed; (focus kernel_rfl)))); (focus (simp only [Tryz.f118, go_sem]; with_reducible rfl))) | (with_reducible refine wZ hTT cf0_ok noM_ok ?_) | (with_reducible refine wa ?_; refine And.intro ?_ ?_; (focus kernel_rfl)))
      refine RunQ.keep [10, 9, 8, 7, 6, 3, 2] (by simp only [go_sem]; rfl) ?_
      refine RunQ.loop (fun j s' => s' = ⟨[(10, ii j), (9, .sl zc (C.map (lsE m))), (8, ii ((f + k : Nat) : Int)), (7, .ms 1 (N ++ (C.take j).map fun c => ((f + k : Nat) : Int) :: c).length), (6, .sl .n []), (3, .bp 0 0), (2, ii mi)], 45, [.var [ii s, .sl z (ls.map encLb)] false, .row (decide ((N ++ (C.take j).map fun c => ((f + k : Nat) : Int) :: c).length = 0)) 25 1 ((N ++ (C.take j).map fun c => ((f + k : Nat) : Int) :: c).map (lsE (m + 1))) false]⟩) C.length (by simp) ?_
      rintro j _ hj rfl
      by_cases hjl : j < C.length
      · obtain ⟨c, hcx⟩ : ∃ c, C[j]? = some c := ⟨_, List.getElem?_eq_getElem hjl⟩
        have hcx' : (C.map (lsE m))[j]? = some (.sl (zM m) (c.map ii)) := by rw [List.getElem?_map, hcx]; rfl
        have hcl := hcln c (List.mem_of_getElem? hcx)
        have hjl' : (j : Int) < C.length := by omega
        have hzc' : zc ≠ .n := fun e => by rw [hzc e] at hjl; simp at hjl
        have e6 : IntKind.i64.wrap ((j : Int) + 1) = ((j + 1 : Nat) : Int) := wrap_id (by omega) (by omega)
        have hM2 : (N ++ (C.take (j + 1)).map fun c => ((f + k : Nat) : Int) :: c) = (N ++ (C.take j).map fun c => ((f + k : Nat) : Int) :: c) ++ [((f + k : Nat) : Int) :: c] := by
          rw [List.take_add_one, hcx]; simp
        have hMl : (N ++ (C.take j).map fun c => ((f + k : Nat) : Int) :: c).length ≤ 93312 := by
          rw [List.length_append, List.length_map, List.length_take]; omega
        generalize (N ++ (C.take j).map fun c => ((f + k : Nat) : Int) :: c) = M at hM2 hMl ⊢
        have r1 : (M.length + 1) * 24 ≤ 140737488355328 := by omega
        have r2 : M.length + 1 ≤ maxLen := by unfold maxLen; omega
        have hdM : decide (M.length + 1 = 0) = false := by simp
        cases m with
        | zero =>
          have hc0 : c = [] := List.length_eq_zero_iff.1 hcl
          subst hc0
          repeat (first | (with_reducible (first | apply wA | ((fail_if_success (refine RunQ.seq (x := .region 11 _ _) ?_)); (apply wB)) | apply wC | apply wD | apply wE | apply wF | apply wG | apply wH | apply wI | apply wJ | apply wK | apply wL | apply wM | apply wN | apply wO | apply wP | apply wQ rfl | apply wR | apply wS | apply wT | apply wU)) | ((with_reducible (first | apply wV | apply wW | apply wX | (apply wY [] hTT cf0_ok noM_ok mixed; (focus kernel_rfl)))); (focus (simp only [Tryz.f118, hjl', List.length_map, go_sem]; with_reducible rfl))) | ((fail_if_success (with_reducible show RunQ _ (.region 11 _ _) _ _)); (with_reducible refine wZ hTT cf0_ok noM_ok ?_)) | (with_reducible refine wa ?_; refine And.intro ?_ ?_; (focus kernel_rfl)))
          repeat (first | (with_reducible (first | apply wA | apply wB | apply wC | apply wD | apply wE | apply wF | apply wG | apply wH | apply wI | apply wJ | apply wK | apply wL | apply wM | apply wN | apply wO | apply wP | apply wQ rfl | apply wR | apply wS | apply wT | apply wU)) | ((with_reducible (first | apply wV | apply wW | apply wX | (apply wY [] hTT cf0_ok noM_ok mixed; (focus kernel_rfl)))); (focus (simp only [Tryz.f118, zM, hcx', hjl', hzc', r1, r2, e6, List.length_map, go_sem]; with_reducible rfl))) | (with_reducible refine wZ hTT cf0_ok noM_ok ?_) | (with_reducible refine wa ?_; refine And.intro ?_ ?_; (focus kernel_rfl)))
          refine roundQ.t 2 [10, 9, 8, 7, 6, 3, 2] hjl (by simp only [ltB_lbs, ltB_is, ltB_ls, ltB_sl, go_sem]) (by rw [hM2]; simp only [lsE, zM, List.map_append, go_sem])
        | succ m' =>
          have hzm : zM (m' + 1) ≠ .n := by cases m' <;> (intro e; cases e)
          have hie : (c.map ii).isEmpty = false := by cases c with
            | nil => simp at hcl
            | cons a r => rfl
          have r3 : (1 + c.length) * 8 ≤ 140737488355328 := by omega
          have r4 : 1 + c.length ≤ maxLen := by unfold maxLen; omega
          have r5 : c.length * 8 ≤ 140737488355328 := by omega
          have r6 : c.length ≤ maxLen := by unfold maxLen; omega
          generalize zM (m' + 1) = zm at hzm hcx' ⊢
          repeat (first | (with_reducible (first | apply wA | ((fail_if_success (refine RunQ.seq (x := .region 11 _ _) ?_)); (apply wB)) | apply wC | apply wD | apply wE | apply wF | apply wG | apply wH | apply wI | apply wJ | apply wK | apply wL | apply wM | apply wN | apply wO | apply wP | apply wQ rfl | apply wR | apply wS | apply wT | apply wU)) | ((with_reducible (first | apply wV | apply wW | apply wX | (apply wY [] hTT cf0_ok noM_ok mixed; (focus kernel_rfl)))); (focus (simp only [Tryz.f118, hjl', List.length_map, go_sem]; with_reducible rfl))) | ((fail_if_success (with_reducible show RunQ _ (.region 11 _ _) _ _)); (with_reducible refine wZ hTT cf0_ok noM_ok ?_)) | (with_reducible refine wa ?_; refine And.intro ?_ ?_; (focus kernel_rfl)))
          refine RunQ.regG hTT cf0_ok noM_ok ?_
          iterate 8 (apply RegG.step; (focus (simp only [Tryz.f118, hcx', hjl', hzc', hzm, hie, all_mi2, all_t2, r3, r4, r5, r6, List.length_map, go_sem]; rfl)))
          refine RegG.freeze 41 2 (es := ii ((f + k : Nat) : Int) :: c.map ii) (by simp only [go_sem]; rfl) rfl (by simp; omega) (by simp [closedL, PV.closed, closedL_is]) (by simp only [go_sem]; rfl) (by simp only [go_sem]; rfl) ?_
          iterate 3 (apply RegG.step; (focus (simp only [Tryz.f118, r1, r2, List.length_map, go_sem]; rfl)))
          refine RegG.nil ?_
          repeat (first | (with_reducible (first | apply wA | apply wB | apply wC | apply wD | apply wE | apply wF | apply wG | apply wH | apply wI | apply wJ | apply wK | apply wL | apply wM | apply wN | apply wO | apply wP | apply wQ rfl | apply wR | apply wS | apply wT | apply wU)) | ((with_reducible (first | apply wV | apply wW | apply wX | (apply wY [] hTT cf0_ok noM_ok mixed; (focus kernel_rfl)))); (focus (simp only [Tryz.f118, e6, go_sem]; with_reducible rfl))) | (with_reducible refine wZ hTT cf0_ok noM_ok ?_) | (with_reducible refine wa ?_; refine And.intro ?_ ?_; (focus kernel_rfl)))
          refine roundQ.t 2 [10, 9, 8, 7, 6, 3, 2] hjl (by simp only [ltB_lbs, ltB_is, ltB_ls, ltB_sl, go_sem]) (by rw [hM2]; simp only [lsE, zM, List.map_append, go_sem])
      · have hjl' : ¬ (j : Int) < C.length := by omega
        obtain rfl : j = C.length := by omega
        rw [List.take_length, ← hst]
        generalize hM : combP ls.length m f (k + 1) = M
        repeat (first | (with_reducible (first | apply wA | apply wB | apply wC | apply wD | apply wE | apply wF | apply wG | apply wH | apply wI | apply wJ | apply wK | apply wL | apply wM | apply wN | apply wO | apply wP | apply wQ rfl | apply wR | apply wS | apply wT | apply wU)) | ((with_reducible (first | apply wV | apply wW | apply wX | (apply wY [] hTT cf0_ok noM_ok mixed; (focus kernel_rfl)))); (focus (simp only [Tryz.f118, hjl', e4, List.length_map, go_sem]; with_reducible rfl))) | (with_reducible refine wZ hTT cf0_ok noM_ok ?_) | (with_reducible refine wa ?_; refine And.intro ?_ ?_; (focus kernel_rfl)))
        refine roundQ.t 2 [8, 7, 6, 3, 2] hlt (by simp only [ltB_lbs, ltB_is, ltB_ls, ltB_sl, go_sem]) ⟨by omega, by rw [hM]; simp only [go_sem]; rfl⟩
    · have hlt' : ¬ ((f + k : Nat) : Int) < ls.length := by omega
      obtain rfl : k = ls.length - f := by omega
      rw [combP_all] at hPl ⊢
      unfold lsR
      rw [if_neg (Nat.succ_ne_zero m)]
      generalize combF ls.length (m + 1) f = C at hPl ⊢
      repeat (first | (with_reducible (first | apply wA | apply wB | apply wC | apply wD | apply wE | apply wF | apply wG | apply wH | apply wI | apply wJ | apply wK | apply wL | apply wM | apply wN | apply wO | apply wP | apply wQ rfl | apply wR | apply wS | apply wT | apply wU)) | ((with_reducible (first | apply wV | apply wW | apply wX | (apply wY [] hTT cf0_ok noM_ok mixed; (focus kernel_rfl)))); (focus (simp only [Tryz.f118, hlt', hz', List.length_map, go_sem]; with_reducible rfl))) | (with_reducible refine wZ hTT cf0_ok noM_ok ?_) | (with_reducible refine wa ?_; refine And.intro ?_ ?_; (focus kernel_rfl)))
      refine ⟨rfl, rfl, _, rfl, ?_⟩
      show leaveC0 0 (.ms 1 C.length) [.var [ii s, .sl z (ls.map encLb)] false, .row (decide (C.length = 0)) 25 1 (C.map (lsE (m + 1))) false] = _
      have := leave_row (id := 1) (sg := [.var [ii s, .sl z (ls.map encLb)] false, .row (decide (C.length = 0)) 25 1 (C.map (lsE (m + 1))) false]) (z := decide (C.length = 0)) (frz := false) rfl (closedL_ls (m + 1) C) (m := C.length) (by simp)
      rw [this]
      congr 2
      by_cases h0 : C.length = 0
      · rw [if_pos h0, if_pos (decide_eq_true h0)]
      · rw [if_neg h0, if_neg (by simpa using h0)]
end Go.Pv
namespace Go.Pv
open Go Go.RowKit Go.Proofs
set_option maxRecDepth 200000
set_option maxHeartbeats 8000000
/-- The fewest joints, the first such list. -/
def mendsA (n : Nat) (h : List Int → Bool) : Nat → Nat → Option (List Int)
  | 0, _ => none
  | k + 1, m => match (cmb n [] m 0).find? h with
    | some l => some l
    | none => mendsA n h k (m + 1)
def mendsO (n : Nat) (h : List Int → Bool) : Option (List Int) := mendsA n h (n + 1) 0
theorem mendsA_none {n : Nat} {h : List Int → Bool} {k m : Nat} (hm : (cmb n [] m 0).any h = false) : mendsA n h (k + 1) m = mendsA n h k (m + 1) := by
  show (match (cmb n [] m 0).find? h with | some l => some l | none => mendsA n h k (m + 1)) = _
  rw [find_any.1 hm]
theorem mendsA_some {n : Nat} {h : List Int → Bool} {k m : Nat} {v : PV} (hm : (cmb n [] m 0).any h = true) : ∃ l, mendsA n h (k + 1) m = some l ∧ resO h v (cmb n [] m 0) = pvL l := by
  cases hf : (cmb n [] m 0).find? h with
  | none => rw [find_any.2 hf] at hm; cases hm
  | some l =>
    refine ⟨l, ?_, ?_⟩
    · show (match (cmb n [] m 0).find? h with | some l => some l | none => mendsA n h k (m + 1)) = _
      rw [hf]
    · unfold resO
      rw [hf]
/-- Whether lists are poses, and not too many. -/
def posesB (ls : List Lb) (L : List Qi) : Bool := (L.all fun q => poseG ls q.2) && decide (L.length ≤ 6)
def mendV : Option (List Int) → PV
  | some l => .tuple [pvL l, ii 0]
  | none => .tuple [.sl .n [], ii 5]
/-- What Mends returns. -/
def mendR (s : Int) (ls : List Lb) (g : Stg) (L : List Qi) : PV := if figB s ls = true ∧ stgG ls g = true ∧ posesB ls L = true then mendV (mendsO ls.length (heldG s ls g L)) else .tuple [.sl .n [], ii 2]
def cfMr : CallF := cfAdd (cfAdd cf0 85 c85) 96 c96
theorem cfMr_ok : CallFOk Tryz.prog cfMr := cfAdd_ok (cfAdd_ok cf0_ok c85_ok) c96_ok
theorem Mends_60 (s : Int) (z zh zr zq : Z) (ls : List Lb) (g : Stg) (L : List Qi) (hzo : zOk z (ls.map encLb) = true) (hh : zOk zh (g.hs.map encFld) = true) (hr : zOk zr (g.rs.map ii) = true) (hzq : zq = .n → L = []) (hq : qsB L = true) (hL : L.length ≤ 100000) :
    CallOk Tryz.prog 60 [.agg [ii s, .sl z (ls.map encLb)], encStg zh zr g, .sl zq (L.map encQ)] [] (.ret (mendR s ls g L)) [] := by
  refine CallOk.ofF hTT Tryz.func60 rfl rfl ?_
  have hd := decFig_enc s z ls hzo
  have hd2 := decStg_enc hh hr
  unfold mendR
  unfold encStg at hd2 ⊢
  repeat (first | (with_reducible (first | apply wA | ((fail_if_success (refine RunQ.seq (x := .region 1 _ _) ?_)); (apply wB)) | apply wC | apply wD | apply wE | apply wF | apply wG | apply wH | apply wI | apply wJ | apply wK | apply wL | apply wM | apply wN | apply wO | apply wP | apply wQ rfl | apply wR | apply wS | apply wT | apply wU)) | ((with_reducible (first | apply wV | apply wW | apply wX | (apply wY [] hTT cfMr_ok noM_ok mixed; (focus kernel_rfl)))); (focus (simp only [Tryz.f60, notYield, go_sem]; with_reducible rfl))) | ((fail_if_success (with_reducible show RunQ _ (.region 1 _ _) _ _)); (with_reducible refine wZ hTT cfMr_ok noM_ok ?_)) | (with_reducible refine wa ?_; refine And.intro ?_ ?_; (focus kernel_rfl)))
  refine RunQ.scope ?_
  refine RunQ.fzVar 3 0 rfl rfl rfl rfl ?_
  refine RunQ.fzVar 4 1 rfl rfl rfl rfl ?_
  refine RunQ.fzVar 5 2 rfl rfl rfl rfl ?_
  refine RunQ.keep [7, 6, 5, 4, 3] (by simp only [go_sem]; rfl) ?_
  cases a0 : figB s ls
  · repeat (first | (with_reducible (first | apply wA | apply wB | apply wC | apply wD | apply wE | apply wF | apply wG | apply wH | apply wI | apply wJ | apply wK | apply wL | apply wM | apply wN | apply wO | apply wP | apply wQ rfl | apply wR | apply wS | apply wT | apply wU)) | ((with_reducible (first | apply wV | apply wW | apply wX | (apply wY [] hTT cfMr_ok noM_ok mixed; (focus kernel_rfl)))); (focus (simp only [Tryz.f60, cfMr, c85, hd, a0, notYield, go_sem]; with_reducible rfl))) | (with_reducible refine wZ hTT cfMr_ok noM_ok ?_) | (with_reducible refine wa ?_; refine And.intro ?_ ?_; (focus kernel_rfl)))
    exact ⟨(fun l e => by cases e), rfl, rfl, _, rfl, leave_closed rfl⟩
  have hl := fig_len a0
  have hs : ls.length ≤ maxLen := by unfold maxLen; omega
  have hs2 : ls.length ≤ 1000 := by omega
  cases a1 : stgG ls g
  · repeat (first | (with_reducible (first | apply wA | apply wB | apply wC | apply wD | apply wE | apply wF | apply wG | apply wH | apply wI | apply wJ | apply wK | apply wL | apply wM | apply wN | apply wO | apply wP | apply wQ rfl | apply wR | apply wS | apply wT | apply wU)) | ((with_reducible (first | apply wV | apply wW | apply wX | (apply wY [] hTT cfMr_ok noM_ok mixed; (focus kernel_rfl)))); (focus (simp only [Tryz.f60, cfMr, c85, c96, hd, hd2, a0, a1, hs, notYield, go_sem]; with_reducible rfl))) | (with_reducible refine wZ hTT cfMr_ok noM_ok ?_) | (with_reducible refine wa ?_; refine And.intro ?_ ?_; (focus kernel_rfl)))
    exact ⟨(fun l e => by cases e), rfl, rfl, _, rfl, leave_closed rfl⟩
  by_cases h6 : (6 : Int) < L.length
  · have hp : posesB ls L = false := by unfold posesB; rw [decide_eq_false (by omega), Bool.and_false]
    rw [hp]
    repeat (first | (with_reducible (first | apply wA | apply wB | apply wC | apply wD | apply wE | apply wF | apply wG | apply wH | apply wI | apply wJ | apply wK | apply wL | apply wM | apply wN | apply wO | apply wP | apply wQ rfl | apply wR | apply wS | apply wT | apply wU)) | ((with_reducible (first | apply wV | apply wW | apply wX | (apply wY [] hTT cfMr_ok noM_ok mixed; (focus kernel_rfl)))); (focus (simp only [Tryz.f60, cfMr, c85, c96, hd, hd2, a0, a1, hs, h6, gt_iff_lt, notYield, List.length_map, go_sem]; with_reducible rfl))) | (with_reducible refine wZ hTT cfMr_ok noM_ok ?_) | (with_reducible refine wa ?_; refine And.intro ?_ ?_; (focus kernel_rfl)))
    exact ⟨(fun l e => by cases e), rfl, rfl, _, rfl, leave_closed rfl⟩
  have h112 := contains_112 (g := 113) (c := .ip [ii s, .sl z (ls.map encLb)]) zq L (fun q => !poseG ls q.2) (ent Tryz.func113 rfl) (show closedL _ = true from by simp [closedL, PV.closed, closedL_lbs]) hzq hL (fun q hq' => mends1_113 s z ls q hzo (List.all_eq_true.1 hq q hq') hs2)
  have hltb : ltBL 0 [PV.sl zq (L.map encQ), .fn (.func 113) [] [.ip [ii s, .sl z (ls.map encLb)]]] = true := ltBL_of_closed 0 _ (by simp only [closedL, PV.closed, closedL_Qs, closedL_lbs, Bool.true_and, Bool.and_true])
  cases hall : L.all fun q => poseG ls q.2
  · have hany : (L.any fun q => !poseG ls q.2) = true := by
      rw [← Bool.not_eq_false', ← List.all_eq_not_any_not, hall]
    have hp : posesB ls L = false := by unfold posesB; rw [hall, Bool.false_and]
    rw [hp]
    rw [hany] at h112
    repeat (first | (with_reducible (first | apply wA | apply wB | apply wC | apply wD | apply wE | apply wF | apply wG | apply wH | apply wI | apply wJ | apply wK | apply wL | apply wM | apply wN | apply wO | apply wP | apply wQ rfl | apply wR | apply wS | apply wT | apply wU)) | ((with_reducible (first | apply wV | apply wW | apply wX | (apply wY [] hTT (cfAt_ok cfMr_ok (ent Tryz.func112 rfl) h112 hltb) noM_ok mixed; (focus kernel_rfl)))); (focus (simp only [Tryz.f60, cfAt, cfMr, c85, c96, hd, hd2, a0, a1, hs, h6, gt_iff_lt, notYield, List.length_map, go_sem]; with_reducible rfl))) | (with_reducible refine wZ hTT (cfAt_ok cfMr_ok (ent Tryz.func112 rfl) h112 hltb) noM_ok ?_) | (with_reducible refine wa ?_; refine And.intro ?_ ?_; (focus kernel_rfl)))
    exact ⟨(fun l e => by cases e), rfl, rfl, _, rfl, leave_closed rfl⟩
  have hany : (L.any fun q => !poseG ls q.2) = false := by
    rw [← Bool.not_eq_true', ← List.all_eq_not_any_not, hall]
  have hp : posesB ls L = true := by unfold posesB; rw [hall, decide_eq_true (by omega)]; rfl
  rw [hp, if_pos ⟨rfl, rfl, rfl⟩]
  rw [hany] at h112
  have H : MdOk s z zh zr zq ls g L := ⟨hzo, hh, hr, a0, a1, hzq, hq, hL, fun q hq' => List.all_eq_true.1 hall q hq'⟩
  have hz' : z ≠ .n := fun e => by
    have := zOk_map hzo e
    rw [this] at hl
    simp at hl
  repeat (first | (with_reducible (first | apply wA | ((fail_if_success (refine RunQ.seq (x := .region 3 _ _) ?_)); (apply wB)) | apply wC | apply wD | apply wE | apply wF | apply wG | apply wH | apply wI | apply wJ | apply wK | apply wL | apply wM | apply wN | apply wO | apply wP | apply wQ rfl | apply wR | apply wS | apply wT | apply wU)) | ((with_reducible (first | apply wV | apply wW | apply wX | (apply wY [] hTT (cfAt_ok cfMr_ok (ent Tryz.func112 rfl) h112 hltb) noM_ok mixed; (focus kernel_rfl)))); (focus (simp only [Tryz.f60, cfAt, cfMr, c85, c96, hd, hd2, a0, a1, hs, h6, gt_iff_lt, notYield, List.length_map, go_sem]; with_reducible rfl))) | ((fail_if_success (with_reducible show RunQ _ (.region 3 _ _) _ _)); (with_reducible refine wZ hTT (cfAt_ok cfMr_ok (ent Tryz.func112 rfl) h112 hltb) noM_ok ?_)) | (with_reducible refine wa ?_; refine And.intro ?_ ?_; (focus kernel_rfl)))
  refine RunQ.keep [7, 6, 5, 4, 3] (by simp only [go_sem]; rfl) ?_
  have e1 : IntKind.i64.wrap ((ls.length : Int) + 1) = (ls.length : Int) + 1 := wrap_id (by omega) (by omega)
  repeat (first | (with_reducible (first | apply wA | apply wB | apply wC | apply wD | apply wE | apply wF | apply wG | apply wH | apply wI | apply wJ | apply wK | apply wL | apply wM | apply wN | apply wO | apply wP | apply wQ rfl | apply wR | apply wS | apply wT | apply wU)) | ((with_reducible (first | apply wV | apply wW | apply wX | (apply wY [] hTT cf0_ok noM_ok mixed; (focus kernel_rfl)))); (focus (simp only [Tryz.f60, hz', e1, notYield, List.length_map, go_sem]; with_reducible rfl))) | (with_reducible refine wZ hTT cf0_ok noM_ok ?_) | (with_reducible refine wa ?_; refine And.intro ?_ ?_; (focus kernel_rfl)))
  refine RunQ.keep [36, 35, 10, 9, 8] (by simp only [go_sem]; rfl) ?_
  have hSR := fun (m : Nat) (w : PV) (hw : w.closed = true) (hm : m ≤ 999) => srch_ok H m [] 0 [.var (figC s z ls) true, .var (stC zh zr g) true, .var [.sl zq (L.map encQ)] true, .var [w] false, .var [srF s z zh zr zq ls g L 3 4] false] 3 4 w (fun x hx => by cases hx) (by simp; omega) (Nat.zero_le _) rfl hw rfl (by decide) (fun b hb => by
    have l1 : ltBL 5 (figC s z ls) = true := ltBL_of_closed 5 _ (by simp [closedL, PV.closed, closedL_lbs])
    have l2 : ltBL 5 (stC zh zr g) = true := ltBL_of_closed 5 _ (by simp [closedL, PV.closed, closedL_flds, closedL_is])
    have l3 : ltBL 5 [PV.sl zq (L.map encQ)] = true := ltBL_of_closed 5 _ (by simp [closedL, PV.closed, closedL_Qs])
    have l4 : ltBL 5 [w] = true := ltBL_of_closed 5 _ (by simp [closedL, hw])
    have l5 : ltBL 5 [srF s z zh zr zq ls g L 3 4] = true := by
      simp only [ltBL, PV.ltB, ltB_lbs, ltB_flds, ltB_is, ltB_Qs, Bool.and_true]
      rfl
    refine lt_ltBB (m := 5) (sg := [.var (figC s z ls) true, .var (stC zh zr g) true, .var [.sl zq (L.map encQ)] true, .var [w] false, .var [srF s z zh zr zq ls g L 3 4] false]) ?_ b hb
    simp only [ltBB, Box.ltB, l1, l2, l3, l4, l5, Bool.and_true])
  unfold mendsO
  generalize hH : heldG s ls g L = h at hSR ⊢
  refine RunQ.loop (fun k s' => ∃ w : PV, w.closed = true ∧ mendsA ls.length h (ls.length + 1) 0 = mendsA ls.length h (ls.length + 1 - k) k ∧
    s' = ⟨[(36, ii k), (35, ii ((ls.length : Int) + 1)), (10, .bool false), (9, .bp 4 0), (8, .bp 3 0)], 47, [.var (figC s z ls) true, .var (stC zh zr g) true, .var [.sl zq (L.map encQ)] true, .var [w] false, .var [srF s z zh zr zq ls g L 3 4] false]⟩) (ls.length + 1) ⟨.sl .n [], rfl, rfl, rfl⟩ ?_
  rintro k _ hk ⟨w, hw, hA, rfl⟩
  by_cases hlt : k < ls.length + 1
  · have hlt' : (k : Int) < (ls.length : Int) + 1 := by omega
    have e4 : IntKind.i64.wrap ((k : Int) + 1) = ((k + 1 : Nat) : Int) := wrap_id (by omega) (by omega)
    have hc := hSR k w hw (by omega)
    have hsl := sameLoops_set (S := [.var (figC s z ls) true, .var (stC zh zr g) true, .var [.sl zq (L.map encQ)] true, .var [w] false, .var [srF s z zh zr zq ls g L 3 4] false]) (o := 3) (cs' := [resO h w (cmb ls.length [] k 0)]) (b' := false) rfl
    have hpn : pvL [] = .sl .n [] := rfl
    rw [hpn] at hc
    have hkn : ls.length + 1 - k = (ls.length + 1 - (k + 1)) + 1 := by omega
    rw [hkn] at hA
    cases hb : (cmb ls.length [] k 0).any h
    · rw [hb] at hc
      rw [mendsA_none hb] at hA
      have hw' : (resO h w (cmb ls.length [] k 0)).closed = true := resO_closed hw
      generalize resO h w (cmb ls.length [] k 0) = w' at hc hsl hw'
      have lW : ∀ m, w'.ltB m = true := fun m => ltB_of_closed m _ hw'
      repeat (first | (with_reducible (first | apply wA | apply wB | apply wC | apply wD | apply wE | apply wF | apply wG | apply wH | apply wI | apply wJ | apply wK | apply wL | apply wM | apply wN | apply wO | apply wP | apply wQ rfl | apply wR | apply wS | apply wT | apply wU)) | ((with_reducible (first | apply wV | apply wW | apply wX | (apply wY [] hTT (cfOne_ok cf0_ok (ent Tryz.func114 rfl) hc hsl) noM_ok mixed; (focus kernel_rfl)))); (focus (simp only [Tryz.f60, cfOne, hlt', e4, go_sem]; with_reducible rfl))) | (with_reducible refine wZ hTT (cfOne_ok cf0_ok (ent Tryz.func114 rfl) hc hsl) noM_ok ?_) | (with_reducible refine wa ?_; refine And.intro ?_ ?_; (focus kernel_rfl)))
      refine roundQ.t 5 [36, 35, 10, 9, 8] hlt (by simp only [lW, ltB_lbs, ltB_flds, ltB_is, ltB_isl, ltB_Qs, go_sem]) ⟨w', hw', hA, by simp only [go_sem]⟩
    · obtain ⟨l, h1, h2⟩ := mendsA_some (k := ls.length + 1 - (k + 1)) (v := w) hb
      rw [hb, h2] at hc
      rw [h2] at hsl
      rw [h1] at hA
      rw [hA]
      have hpc : (pvL l).closed = true := closedL_is l
      obtain ⟨zl, hzl, _⟩ := pvL_z l
      have hV : mendV (some l) = .tuple [.sl zl (l.map ii), ii 0] := by rw [← hzl]; rfl
      rw [hV]
      rw [hzl] at hc hsl hpc
      repeat (first | (with_reducible (first | apply wA | apply wB | apply wC | apply wD | apply wE | apply wF | apply wG | apply wH | apply wI | apply wJ | apply wK | apply wL | apply wM | apply wN | apply wO | apply wP | apply wQ rfl | apply wR | apply wS | apply wT | apply wU)) | ((with_reducible (first | apply wV | apply wW | apply wX | (apply wY [] hTT (cfOne_ok cf0_ok (ent Tryz.func114 rfl) hc hsl) noM_ok mixed; (focus kernel_rfl)))); (focus (simp only [Tryz.f60, cfOne, hlt', go_sem]; with_reducible rfl))) | (with_reducible refine wZ hTT (cfOne_ok cf0_ok (ent Tryz.func114 rfl) hc hsl) noM_ok ?_) | (with_reducible refine wa ?_; refine And.intro ?_ ?_; (focus kernel_rfl)))
      exact ⟨(fun l e => by cases e), rfl, rfl, _, rfl, leave_closed (show closedL [.sl zl (l.map ii), ii 0] = true from by simp only [closedL, hpc]; rfl)⟩
  · have hlt' : ¬ (k : Int) < (ls.length : Int) + 1 := by omega
    obtain rfl : k = ls.length + 1 := by omega
    rw [Nat.sub_self] at hA
    have hA : mendsA ls.length h (ls.length + 1) 0 = none := hA
    rw [hA]
    repeat (first | (with_reducible (first | apply wA | apply wB | apply wC | apply wD | apply wE | apply wF | apply wG | apply wH | apply wI | apply wJ | apply wK | apply wL | apply wM | apply wN | apply wO | apply wP | apply wQ rfl | apply wR | apply wS | apply wT | apply wU)) | ((with_reducible (first | apply wV | apply wW | apply wX | (apply wY [] hTT cf0_ok noM_ok mixed; (focus kernel_rfl)))); (focus (simp only [Tryz.f60, hlt', go_sem]; with_reducible rfl))) | (with_reducible refine wZ hTT cf0_ok noM_ok ?_) | (with_reducible refine wa ?_; refine And.intro ?_ ?_; (focus kernel_rfl)))
    exact ⟨(fun l e => by cases e), rfl, rfl, _, rfl, leave_closed rfl⟩
def c60 : List PV → List Box → Option (PRes × List Box)
  | [v, w, .sl zq es], sg => match decFig v, decStg w, decL decQ es with
    | some (s, ls), some g, some L => if (zq = .n → L = []) ∧ qsB L = true ∧ L.length ≤ 100000 then some (.ret (mendR s ls g L), sg) else none
    | _, _, _ => none
  | _, _ => none
theorem c60_ok : ConOk Tryz.prog 60 c60 := ConOk.of0 (ent Tryz.func60 rfl) fun args sg r sg' h => by
  unfold c60 at h
  split at h <;> try (cases h; done)
  split at h <;> try (cases h; done)
  rename_i h1 h2 h3
  split at h <;> cases h
  rename_i hc
  obtain ⟨z, rfl, hz⟩ := decFig_inv h1
  obtain ⟨zh, zr, rfl, hh, hr⟩ := decStg_inv h2
  obtain rfl := decL_inv decQ_inv h3
  exact ⟨_, rfl, rfl, by rw [ltBL_cons, ltB_fig, ltBL_cons, ltB_stg, ltBL_cons, ltB_sl, ltB_Qs]; rfl, Mends_60 _ _ _ _ _ _ _ _ (zOk_n' hz) hh hr hc.1 hc.2.1 hc.2.2⟩
end Go.Pv
namespace Go.Pv
open Go Go.RowKit Go.Proofs
set_option maxRecDepth 200000
set_option maxHeartbeats 8000000
theorem c65a_ok : ConOk Tryz.prog 65 c115 := ConOk.of0 (ent Tryz.func65 rfl) fun args sg r sg' h => by
  unfold c115 at h
  split at h <;> try (cases h; done)
  split at h <;> try (cases h; done)
  rename_i h1 h2
  split at h <;> cases h
  rename_i hc
  obtain ⟨z, rfl, hz⟩ := decFig_inv h1
  obtain ⟨zp, rfl, hp⟩ := decIs1_inv h2
  exact ⟨_, rfl, rfl, by rw [ltBL_cons, ltB_fig, ltBL_cons, ltB_isl]; rfl, Mended_65 _ _ _ _ _ (zOk_n' hz) (zOk_n' hp) hc.1 hc.2.1 hc.2.2.1 (fun n hn => List.all_eq_true.1 hc.2.2.2 n hn)⟩
def cfMu : CallF := cfAdd (cfAdd cf0 65 c115) 58 c58
theorem cfMu_ok : CallFOk Tryz.prog cfMu := cfAdd_ok (cfAdd_ok cf0_ok c65a_ok) c58_ok
theorem Enough_119 {s : Int} {z zh zr zq zj : Z} {ls : List Lb} {g : Stg} {L : List Qi} (H : MdOk s z zh zr zq ls g L) (js : List Int) (hj : zOk zj (js.map ii) = true) (hjs : ∀ x ∈ js, limbG ls x = true) (hjl : js.length ≤ 1000) :
    CallOk Tryz.prog 119 [.agg [ii s, .sl z (ls.map encLb)], encStg zh zr g, .sl zq (L.map encQ), .sl zj (js.map ii)] [] (.ret (.bool (heldG s ls g L js))) [] := by
  refine CallOk.of0 hTT Tryz.func119 rfl rfl ?_
  have hd := decFig_enc s z ls H.z
  have hd2 := decStg_enc H.h H.r
  have hd3 := decIs1_enc hj
  have hl := fig_len H.f
  have hs2 : ls.length ≤ 1000 := by omega
  have hne : ls ≠ [] := fun e => by rw [e] at hl; simp at hl
  have hall : (js.all fun n => limbG ls n) = true := List.all_eq_true.2 hjs
  have hj6 : js.length ≤ 1000000 := by omega
  have hM := mdd_menG js (mdd_refl ls)
  have hMf := mdd_fig hM H.f
  have hMg : stgG (menG ls js) g = true := by rw [mdd_stg hM]; exact H.g
  have hdM : decFig (.agg [ii s, .sl .a ((menG ls js).map encLb)]) = some (s, menG ls js) := decFig_enc s .a _ (by cases menG ls js <;> rfl)
  have hMp : ∀ q ∈ L, poseG (menG ls js) q.2 = true := fun q hq => by rw [mdd_pose hM]; exact H.p q hq
  have hL := H.l
  unfold encStg at hd2 ⊢
  repeat (first | (with_reducible (first | apply wA | ((fail_if_success (refine RunQ.seq (x := .region 2 _ _) ?_)); (apply wB)) | apply wC | apply wD | apply wE | apply wF | apply wG | apply wH | apply wI | apply wJ | apply wK | apply wL | apply wM | apply wN | apply wO | apply wP | apply wQ rfl | apply wR | apply wS | apply wT | apply wU)) | ((with_reducible (first | apply wV | apply wW | apply wX | (apply wY [] hTT cfMu_ok noM_ok mixed; (focus kernel_rfl)))); (focus (simp only [Tryz.f119, cfMu, c115, hd, hd3, hne, hs2, hj6, hall, ne_eq, not_false_eq_true, and_self, if_true, go_sem]; with_reducible rfl))) | ((fail_if_success (with_reducible show RunQ _ (.region 2 _ _) _ _)); (with_reducible refine wZ hTT cfMu_ok noM_ok ?_)) | (with_reducible refine wa ?_; refine And.intro ?_ ?_; (focus kernel_rfl)))
  unfold heldG
  generalize menG ls js = M at hMf hMg hdM hMp ⊢
  repeat (first | (with_reducible (first | apply wA | apply wB | apply wC | apply wD | apply wE | apply wF | apply wG | apply wH | apply wI | apply wJ | apply wK | apply wL | apply wM | apply wN | apply wO | apply wP | apply wQ rfl | apply wR | apply wS | apply wT | apply wU)) | ((with_reducible (first | apply wV | apply wW | apply wX | (apply wY [] hTT cfMu_ok noM_ok mixed; (focus kernel_rfl)))); (focus (simp only [Tryz.f119, go_sem]; with_reducible rfl))) | (with_reducible refine wZ hTT cfMu_ok noM_ok ?_) | (with_reducible refine wa ?_; refine And.intro ?_ ?_; (focus kernel_rfl)))
  refine RunQ.keep [10, 9, 8, 5, 2] (by simp only [go_sem]; rfl) ?_
  refine RunQ.loop (fun i s' => (L.any fun q => looseG s M g q.2) = ((L.drop i).any fun q => looseG s M g q.2) ∧ s' = ⟨[(10, ii i), (9, .bp 2 0), (8, .bool false), (5, .bp 1 0), (2, .sl zq (L.map encQ))], 33, [.var [ii s, .sl z (ls.map encLb)] false, .var [ii g.e.a, ii g.e.b, ii g.e.c, ii g.e.d, .sl zh (g.hs.map encFld), .sl zr (g.rs.map ii)] false, .var [ii s, .sl .a (M.map encLb)] false]⟩) L.length ⟨rfl, rfl⟩ ?_
  rintro i _ hi ⟨hany, rfl⟩
  by_cases hlt : i < L.length
  · obtain ⟨q, hq⟩ : ∃ q, L[i]? = some q := ⟨_, List.getElem?_eq_getElem hlt⟩
    have hq' : (L.map encQ)[i]? = some (.sl q.1 (q.2.map ii)) := by rw [List.getElem?_map, hq]; rfl
    have hlt' : (i : Int) < L.length := by omega
    have hzq : zq ≠ .n := fun e => by rw [H.zq e] at hlt; simp at hlt
    have e4 : IntKind.i64.wrap ((i : Int) + 1) = ((i + 1 : Nat) : Int) := wrap_id (by omega) (by omega)
    have hdq := decIs1_enc (qsB_at H.q hq)
    have hpq := hMp q (List.mem_of_getElem? hq)
    rw [drop_get hq, List.any_cons] at hany
    unfold looseG at hany
    cases hx : proofO (truthsG M q.2) (finG s M g) with
    | none =>
      have hX : proofX s M g q.2 = .tuple [.sl .n [], .bool false] := by unfold proofX; rw [hx]; rfl
      rw [hx] at hany
      repeat (first | (with_reducible (first | apply wA | apply wB | apply wC | apply wD | apply wE | apply wF | apply wG | apply wH | apply wI | apply wJ | apply wK | apply wL | apply wM | apply wN | apply wO | apply wP | apply wQ rfl | apply wR | apply wS | apply wT | apply wU)) | ((with_reducible (first | apply wV | apply wW | apply wX | (apply wY [] hTT cfMu_ok noM_ok mixed; (focus kernel_rfl)))); (focus (simp only [Tryz.f119, cfMu, c58, hdM, hd2, hdq, hMf, hMg, hpq, hX, hlt', hq', hzq, e4, closedL_lbs, closedL_flds, closedL_is, and_self, if_true, List.length_map, go_sem]; with_reducible rfl))) | (with_reducible refine wZ hTT cfMu_ok noM_ok ?_) | (with_reducible refine wa ?_; refine And.intro ?_ ?_; (focus kernel_rfl)))
      refine roundQ.t 3 [10, 9, 8, 5, 2] hlt (by simp only [ltB_lbs, ltB_flds, ltB_is, ltB_isl, ltB_Qs, go_sem]) ⟨by unfold looseG; rw [hany]; rfl, by simp only [go_sem]⟩
    | some l =>
      have hX : proofX s M g q.2 = .tuple [pvL l, .bool true] := by unfold proofX; rw [hx]; rfl
      obtain ⟨zl, hzl, _⟩ := pvL_z l
      rw [hzl] at hX
      rw [hx] at hany
      have hany : (L.any fun q => (proofO (truthsG M q.2) (finG s M g)).isSome) = true := hany
      unfold looseG
      rw [hany]
      repeat (first | (with_reducible (first | apply wA | apply wB | apply wC | apply wD | apply wE | apply wF | apply wG | apply wH | apply wI | apply wJ | apply wK | apply wL | apply wM | apply wN | apply wO | apply wP | apply wQ rfl | apply wR | apply wS | apply wT | apply wU)) | ((with_reducible (first | apply wV | apply wW | apply wX | (apply wY [] hTT cfMu_ok noM_ok mixed; (focus kernel_rfl)))); (focus (simp only [Tryz.f119, cfMu, c58, hdM, hd2, hdq, hMf, hMg, hpq, hX, hlt', hq', hzq, e4, closedL_lbs, closedL_flds, closedL_is, and_self, if_true, List.length_map, go_sem]; with_reducible rfl))) | (with_reducible refine wZ hTT cfMu_ok noM_ok ?_) | (with_reducible refine wa ?_; refine And.intro ?_ ?_; (focus kernel_rfl)))
      exact ⟨rfl, rfl, _, rfl, rfl⟩
  · have hlt' : ¬ (i : Int) < L.length := by omega
    rw [List.drop_eq_nil_of_le (by omega)] at hany
    rw [hany]
    repeat (first | (with_reducible (first | apply wA | apply wB | apply wC | apply wD | apply wE | apply wF | apply wG | apply wH | apply wI | apply wJ | apply wK | apply wL | apply wM | apply wN | apply wO | apply wP | apply wQ rfl | apply wR | apply wS | apply wT | apply wU)) | ((with_reducible (first | apply wV | apply wW | apply wX | (apply wY [] hTT cfMu_ok noM_ok mixed; (focus kernel_rfl)))); (focus (simp only [Tryz.f119, hlt', List.length_map, go_sem]; with_reducible rfl))) | (with_reducible refine wZ hTT cfMu_ok noM_ok ?_) | (with_reducible refine wa ?_; refine And.intro ?_ ?_; (focus kernel_rfl)))
    exact ⟨rfl, rfl, _, rfl, rfl⟩
theorem comb_limb {ls : List Lb} : ∀ (m f : Nat) (c : List Int), c ∈ combF ls.length m f → ∀ x ∈ c, limbG ls x = true
  | 0, f, c, h, x, hx => by
    have : c = [] := by simpa [combF] using h
    subst this; cases hx
  | m + 1, f, c, h, x, hx => by
    have h : c ∈ (List.range' f (ls.length - f)).flatMap fun (i : Nat) => (combF ls.length m (i + 1)).map fun c => (i : Int) :: c := h
    obtain ⟨i, hi, hc⟩ := List.mem_flatMap.1 h
    obtain ⟨c', hc', rfl⟩ := List.mem_map.1 hc
    rcases List.mem_cons.1 hx with rfl | hx
    · obtain ⟨h1, h2⟩ := List.mem_range'_1.1 hi
      simp [limbG, inB]; omega
    · exact comb_limb m (i + 1) c' hc' x hx
theorem cmb_empty (n m f : Nat) : cmb n [] m f = combF n m f := by
  unfold cmb
  simp
def rmendV : Option (List Int) → PV
  | some l => .tuple [.sl (zM l.length) (l.map ii), .bool true]
  | none => .tuple [.sl .n [], .bool false]
theorem RMends_62 {s : Int} {z zh zr zq : Z} {ls : List Lb} {g : Stg} {L : List Qi} (H : MdOk s z zh zr zq ls g L) :
    CallOk Tryz.prog 62 [.agg [ii s, .sl z (ls.map encLb)], encStg zh zr g, .sl zq (L.map encQ)] [] (.ret (rmendV (mendsO ls.length (heldG s ls g L)))) [] := by
  refine CallOk.ofF hTT Tryz.func62 rfl rfl ?_
  have hd := decFig_enc s z ls H.z
  have hd2 := decStg_enc H.h H.r
  have hl := fig_len H.f
  have h118 := fun (m : Nat) (hm : m ≤ 5) => lists_118 s z ls H.z hl m 0 hm (Nat.zero_le _)
  have h119 := fun (zj : Z) (js : List Int) (hj : zOk zj (js.map ii) = true) (hjs : ∀ x ∈ js, limbG ls x = true) (hjl : js.length ≤ 1000) => Enough_119 (zj := zj) H js hj hjs hjl
  have hz' : z ≠ .n := fun e => by
    have := zOk_map H.z e
    rw [this] at hl
    simp at hl
  unfold mendsO
  unfold encStg at hd2 h119 ⊢
  generalize hH : heldG s ls g L = h at h119 ⊢
  repeat (first | (with_reducible (first | apply wA | apply wB | apply wC | apply wD | apply wE | apply wF | apply wG | apply wH | apply wI | apply wJ | apply wK | apply wL | apply wM | apply wN | apply wO | apply wP | apply wQ rfl | apply wR | apply wS | apply wT | apply wU)) | ((with_reducible (first | apply wV | apply wW | apply wX | (apply wY [] hTT cf0_ok noM_ok mixed; (focus kernel_rfl)))); (focus (simp only [Tryz.f62, go_sem]; with_reducible rfl))) | (with_reducible refine wZ hTT cf0_ok noM_ok ?_) | (with_reducible refine wa ?_; refine And.intro ?_ ?_; (focus kernel_rfl)))
  refine RunQ.keep [8, 7, 6, 4, 3, 2] (by simp only [go_sem]; rfl) ?_
  refine RunQ.loop (fun k s' => mendsA ls.length h (ls.length + 1) 0 = mendsA ls.length h (ls.length + 1 - k) k ∧ s' = ⟨[(8, ii k), (7, .bool false), (6, .sl .n []), (4, .bp 1 0), (3, .bp 0 0), (2, .sl zq (L.map encQ))], 39, [.var [ii s, .sl z (ls.map encLb)] false, .var [ii g.e.a, ii g.e.b, ii g.e.c, ii g.e.d, .sl zh (g.hs.map encFld), .sl zr (g.rs.map ii)] false]⟩) (ls.length + 1) ⟨rfl, rfl⟩ ?_
  rintro k _ hk ⟨hA, rfl⟩
  by_cases hlt : k < ls.length + 1
  · have hlt' : (k : Int) ≤ ls.length := by omega
    have e4 : IntKind.i64.wrap ((k : Int) + 1) = ((k + 1 : Nat) : Int) := wrap_id (by omega) (by omega)
    have hc := h118 k (by omega)
    have hltb : ltBL 0 [PV.agg [ii s, .sl z (ls.map encLb)], ii ((0 : Nat) : Int), ii (k : Nat)] = true := by rw [ltBL_cons, ltB_fig]; rfl
    have hR : lsR ls.length k 0 = .sl (if k = 0 then .f else if (combF ls.length k 0).length = 0 then .n else .a) ((combF ls.length k 0).map (lsE k)) := rfl
    have hzc : (if k = 0 then Z.f else if (combF ls.length k 0).length = 0 then .n else .a) = .n → combF ls.length k 0 = [] := fun e => by
      split at e
      · cases e
      · split at e
        · rename_i h0
          exact List.length_eq_zero_iff.1 h0
        · cases e
    have hkn : ls.length + 1 - k = (ls.length + 1 - (k + 1)) + 1 := by omega
    rw [hkn] at hA
    have hAs : mendsA ls.length h (ls.length + 1 - (k + 1) + 1) k = match (combF ls.length k 0).find? h with | some l => some l | none => mendsA ls.length h (ls.length + 1 - (k + 1)) (k + 1) := by
      rw [← cmb_empty]; rfl
    rw [hAs] at hA
    have hCl := comb_card (n := ls.length) (by omega) k 0
    have h6 : 6 ^ k ≤ 46656 := Nat.le_trans (Nat.pow_le_pow_right (by decide) (by omega)) (by decide : 6 ^ 6 ≤ 46656)
    have hcln := comb_len (n := ls.length) k 0
    have hclm := comb_limb (ls := ls) k 0
    rw [hR] at hc
    generalize (if k = 0 then Z.f else if (combF ls.length k 0).length = 0 then .n else .a) = zc at hc hzc
    generalize combF ls.length k 0 = C at hA hc hCl hcln hclm hzc
    have ez : ((0 : Nat) : Int) = 0 := rfl
    rw [ez] at hc hltb
    repeat (first | (with_reducible (first | apply wA | ((fail_if_success (refine RunQ.seq (x := .region 5 _ _) ?_)); (apply wB)) | apply wC | apply wD | apply wE | apply wF | apply wG | apply wH | apply wI | apply wJ | apply wK | apply wL | apply wM | apply wN | apply wO | apply wP | apply wQ rfl | apply wR | apply wS | apply wT | apply wU)) | ((with_reducible (first | apply wV | apply wW | apply wX | (apply wY [] hTT (cfAt_ok cf0_ok (ent Tryz.func118 rfl) hc hltb) noM_ok mixed; (focus kernel_rfl)))); (focus (simp only [Tryz.f62, cfAt, hlt', hz', List.length_map, go_sem]; with_reducible rfl))) | ((fail_if_success (with_reducible show RunQ _ (.region 5 _ _) _ _)); (with_reducible refine wZ hTT (cfAt_ok cf0_ok (ent Tryz.func118 rfl) hc hltb) noM_ok ?_)) | (with_reducible refine wa ?_; refine And.intro ?_ ?_; (focus kernel_rfl)))
    refine RunQ.keep [9, 8, 7, 6, 4, 3, 2] (by simp only [go_sem]; rfl) ?_
    repeat (first | (with_reducible (first | apply wA | apply wB | apply wC | apply wD | apply wE | apply wF | apply wG | apply wH | apply wI | apply wJ | apply wK | apply wL | apply wM | apply wN | apply wO | apply wP | apply wQ rfl | apply wR | apply wS | apply wT | apply wU)) | ((with_reducible (first | apply wV | apply wW | apply wX | (apply wY [] hTT cf0_ok noM_ok mixed; (focus kernel_rfl)))); (focus (simp only [Tryz.f62, go_sem]; with_reducible rfl))) | (with_reducible refine wZ hTT cf0_ok noM_ok ?_) | (with_reducible refine wa ?_; refine And.intro ?_ ?_; (focus kernel_rfl)))
    refine RunQ.keep [10, 9, 8, 7, 6, 4, 3, 2] (by simp only [go_sem]; rfl) ?_
    refine RunQ.loop (fun i s' => C.find? h = (C.drop i).find? h ∧ s' = ⟨[(10, ii i), (9, .sl zc (C.map (lsE k))), (8, ii k), (7, .bool false), (6, .sl .n []), (4, .bp 1 0), (3, .bp 0 0), (2, .sl zq (L.map encQ))], 39, [.var [ii s, .sl z (ls.map encLb)] false, .var [ii g.e.a, ii g.e.b, ii g.e.c, ii g.e.d, .sl zh (g.hs.map encFld), .sl zr (g.rs.map ii)] false]⟩) C.length ⟨rfl, rfl⟩ ?_
    rintro i _ hi ⟨hf, rfl⟩
    by_cases hil : i < C.length
    · obtain ⟨c, hcx⟩ : ∃ c, C[i]? = some c := ⟨_, List.getElem?_eq_getElem hil⟩
      have hcx' : (C.map (lsE k))[i]? = some (.sl (zM k) (c.map ii)) := by rw [List.getElem?_map, hcx]; rfl
      have hcl := hcln c (List.mem_of_getElem? hcx)
      have hil' : (i : Int) < C.length := by omega
      have hzc' : zc ≠ .n := fun e => by rw [hzc e] at hil; simp at hil
      have e6 : IntKind.i64.wrap ((i : Int) + 1) = ((i + 1 : Nat) : Int) := wrap_id (by omega) (by omega)
      have hzk : zOk (zM k) (c.map ii) = true := by
        subst hcl
        cases c with
        | nil => rfl
        | cons a r => cases r <;> rfl
      have hE := h119 (zM k) c hzk (hclm c (List.mem_of_getElem? hcx)) (by omega)
      have hltE : ltBL 0 [PV.agg [ii s, .sl z (ls.map encLb)], .agg [ii g.e.a, ii g.e.b, ii g.e.c, ii g.e.d, .sl zh (g.hs.map encFld), .sl zr (g.rs.map ii)], .sl zq (L.map encQ), .sl (zM k) (c.map ii)] = true := ltBL_of_closed 0 _ (by simp only [closedL, PV.closed, closedL_Qs, closedL_lbs, closedL_flds, closedL_is, Bool.true_and, Bool.and_true])
      rw [drop_get hcx, List.find?_cons] at hf
      cases hb : h c
      · rw [hb] at hE hf
        repeat (first | (with_reducible (first | apply wA | apply wB | apply wC | apply wD | apply wE | apply wF | apply wG | apply wH | apply wI | apply wJ | apply wK | apply wL | apply wM | apply wN | apply wO | apply wP | apply wQ rfl | apply wR | apply wS | apply wT | apply wU)) | ((with_reducible (first | apply wV | apply wW | apply wX | (apply wY [] hTT (cfAt_ok cf0_ok (ent Tryz.func119 rfl) hE hltE) noM_ok mixed; (focus kernel_rfl)))); (focus (simp only [Tryz.f62, cfAt, hil', hcx', hzc', e6, closedL_lbs, closedL_flds, closedL_is, closedL_Qs, List.length_map, go_sem]; with_reducible rfl))) | (with_reducible refine wZ hTT (cfAt_ok cf0_ok (ent Tryz.func119 rfl) hE hltE) noM_ok ?_) | (with_reducible refine wa ?_; refine And.intro ?_ ?_; (focus kernel_rfl)))
        refine roundQ.t 2 [10, 9, 8, 7, 6, 4, 3, 2] hil (by simp only [ltB_lbs, ltB_flds, ltB_is, ltB_isl, ltB_Qs, ltB_ls, go_sem]) ⟨hf, by simp only [go_sem]⟩
      · rw [hb] at hE hf
        have hf : C.find? h = some c := hf
        rw [hf] at hA
        have hA : mendsA ls.length h (ls.length + 1) 0 = some c := hA
        rw [hA]
        have hV : rmendV (some c) = .tuple [.sl (zM k) (c.map ii), .bool true] := by rw [← hcl]; rfl
        rw [hV]
        repeat (first | (with_reducible (first | apply wA | apply wB | apply wC | apply wD | apply wE | apply wF | apply wG | apply wH | apply wI | apply wJ | apply wK | apply wL | apply wM | apply wN | apply wO | apply wP | apply wQ rfl | apply wR | apply wS | apply wT | apply wU)) | ((with_reducible (first | apply wV | apply wW | apply wX | (apply wY [] hTT (cfAt_ok cf0_ok (ent Tryz.func119 rfl) hE hltE) noM_ok mixed; (focus kernel_rfl)))); (focus (simp only [Tryz.f62, cfAt, hil', hcx', hzc', closedL_lbs, closedL_flds, closedL_is, closedL_Qs, List.length_map, go_sem]; with_reducible rfl))) | (with_reducible refine wZ hTT (cfAt_ok cf0_ok (ent Tryz.func119 rfl) hE hltE) noM_ok ?_) | (with_reducible refine wa ?_; refine And.intro ?_ ?_; (focus kernel_rfl)))
        exact ⟨rfl, rfl, _, rfl, leave_closed (show closedL [.sl (zM k) (c.map ii), .bool true] = true from by simp [closedL, PV.closed, closedL_is])⟩
    · have hil' : ¬ (i : Int) < C.length := by omega
      obtain rfl : i = C.length := by omega
      rw [List.drop_length] at hf
      rw [hf] at hA
      repeat (first | (with_reducible (first | apply wA | apply wB | apply wC | apply wD | apply wE | apply wF | apply wG | apply wH | apply wI | apply wJ | apply wK | apply wL | apply wM | apply wN | apply wO | apply wP | apply wQ rfl | apply wR | apply wS | apply wT | apply wU)) | ((with_reducible (first | apply wV | apply wW | apply wX | (apply wY [] hTT cf0_ok noM_ok mixed; (focus kernel_rfl)))); (focus (simp only [Tryz.f62, hil', e4, List.length_map, go_sem]; with_reducible rfl))) | (with_reducible refine wZ hTT cf0_ok noM_ok ?_) | (with_reducible refine wa ?_; refine And.intro ?_ ?_; (focus kernel_rfl)))
      refine roundQ.t 2 [8, 7, 6, 4, 3, 2] hlt (by simp only [ltB_lbs, ltB_flds, ltB_is, ltB_isl, ltB_Qs, ltB_ls, go_sem]) ⟨hA, by simp only [go_sem]⟩
  · have hlt' : ¬ (k : Int) ≤ ls.length := by omega
    obtain rfl : k = ls.length + 1 := by omega
    rw [Nat.sub_self] at hA
    have hA : mendsA ls.length h (ls.length + 1) 0 = none := hA
    rw [hA]
    repeat (first | (with_reducible (first | apply wA | apply wB | apply wC | apply wD | apply wE | apply wF | apply wG | apply wH | apply wI | apply wJ | apply wK | apply wL | apply wM | apply wN | apply wO | apply wP | apply wQ rfl | apply wR | apply wS | apply wT | apply wU)) | ((with_reducible (first | apply wV | apply wW | apply wX | (apply wY [] hTT cf0_ok noM_ok mixed; (focus kernel_rfl)))); (focus (simp only [Tryz.f62, hlt', hz', List.length_map, go_sem]; with_reducible rfl))) | (with_reducible refine wZ hTT cf0_ok noM_ok ?_) | (with_reducible refine wa ?_; refine And.intro ?_ ?_; (focus kernel_rfl)))
    exact ⟨rfl, rfl, _, rfl, leave_closed rfl⟩
end Go.Pv
