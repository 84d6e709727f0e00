/- Contracts: the reference's Split, number2, Numbers. -/
import Derived.Test.YtmnocohggpmjcaaGreatDoorQnbNum
import Derived.Test.YtmnocohggpmjcaaGreatDoorQnbRead
set_option linter.all false
namespace Go.Pv
open Go Go.RowKit Go.Proofs
set_option maxRecDepth 200000
set_option maxHeartbeats 8000000
theorem Split_126 (s : List UInt8) (c : UInt8) (hs : s.length ≤ 100000) : CallOk Tryz.prog 126 [.str s, .int .u8 c.toNat] [] (.ret (.sl .a ((splF c s).map PV.str))) [] := by
  refine CallOk.ofF hTT Tryz.func126 rfl rfl ?_
  repeat (first | (with_reducible (first | apply wA | apply wB | apply wC | apply wD | apply wE | apply wF | apply wG | apply wH | apply wI | apply wJ | apply wK | apply wL | apply wM | apply wN | apply wO | apply wP | apply wQ rfl | apply wR | apply wS | apply wT | apply wU)) | ((with_reducible (first | apply wV | apply wW | apply wX | (apply wY [] hTT cf0_ok noM_ok mixed; (focus kernel_rfl)))); (focus (simp only [Tryz.f126, go_sem]; with_reducible rfl))) | (with_reducible refine wZ hTT cf0_ok noM_ok ?_) | (with_reducible refine wa ?_; refine And.intro ?_ ?_; (focus kernel_rfl)))
  refine RunQ.keep [7, 6, 5, 0, 1] (by simp only [go_sem]; rfl) ?_
  refine RunQ.nilRow 5 9 1 (by simp only [go_sem]) (by simp only [go_sem]; rfl) (by simp only [go_sem]; rfl) ?_
  refine RunQ.loop (fun i s' => ∃ (O : List (List UInt8)) (fr : Nat), splF c s = O ++ splA c ((s.drop fr).take (i - fr)) (s.drop i) ∧ fr ≤ i ∧ O.length ≤ i ∧ s' = ⟨[(7, ii i), (6, ii fr), (5, .ms 0 O.length), (0, .str s), (1, .int .u8 c.toNat)], 34, [.row (decide (O.length = 0)) 9 1 (O.map PV.str) false]⟩) s.length ⟨[], 0, rfl, Nat.le_refl _, Nat.le_refl _, rfl⟩ ?_
  rintro i _ hi ⟨O, fr, hO, hfi, hOl, rfl⟩
  have l1 : O.length + 1 ≤ maxLen := by unfold maxLen; omega
  have l2 : (O.length + 1) * 16 ≤ 140737488355328 := by omega
  have f0 : (fr : Int) ≤ (i : Int) := by omega
  have hall : ∀ (B : List (List UInt8)), (B.map PV.str).all (fun y => y.cells.length == 1) = true := fun B => by rw [List.all_map]; exact List.all_eq_true.2 fun _ _ => rfl
  by_cases hlt : i < s.length
  · obtain ⟨b, hb⟩ : ∃ b, s[i]? = some b := ⟨_, List.getElem?_eq_getElem hlt⟩
    have hlt' : (i : Int) < s.length := by omega
    have e4 : IntKind.i64.wrap ((i : Int) + 1) = ((i + 1 : Nat) : Int) := wrap_id (by omega) (by omega)
    have f1 : (i : Int) ≤ s.length := by omega
    rw [drop_get hb] at hO
    unfold splA at hO
    by_cases hbc : b = c
    · rw [if_pos hbc] at hO
      have hbb : (((b.toNat : Nat) : Int) == ((c.toNat : Nat) : Int)) = true := by rw [hbc]; exact beq_self_eq_true _
      have hd1 : decide (O.length + 1 = 0) = false := by simp
      repeat (first | (with_reducible (first | apply wA | apply wB | apply wC | apply wD | apply wE | apply wF | apply wG | apply wH | apply wI | apply wJ | apply wK | apply wL | apply wM | apply wN | apply wO | apply wP | apply wQ rfl | apply wR | apply wS | apply wT | apply wU)) | ((with_reducible (first | apply wV | apply wW | apply wX | (apply wY [] hTT cf0_ok noM_ok mixed; (focus kernel_rfl)))); (focus (simp only [Tryz.f126, hlt', hb, hbb, e4, f0, f1, l1, l2, List.length_map, go_sem]; with_reducible rfl))) | (with_reducible refine wZ hTT cf0_ok noM_ok ?_) | (with_reducible refine wa ?_; refine And.intro ?_ ?_; (focus kernel_rfl)))
      refine roundQ.t 1 [7, 6, 5, 0, 1] hlt (by simp only [ltB_strs, ltBL_append, go_sem]) ⟨O ++ [(s.drop fr).take (i - fr)], i + 1, by rw [hO, Nat.sub_self, List.take_zero, List.append_assoc]; rfl, Nat.le_refl _, by simp; omega, by rw [List.map_append, List.length_append]; simp only [hd1, go_sem]⟩
    · rw [if_neg hbc] at hO
      have hbb : (((b.toNat : Nat) : Int) == ((c.toNat : Nat) : Int)) = false := by
        rw [beq_eq_false_iff_ne]
        intro e
        exact hbc (UInt8.toNat_inj.1 (by omega))
      have htk : (s.drop fr).take (i - fr) ++ [b] = (s.drop fr).take (i + 1 - fr) := by
        rw [show i + 1 - fr = i - fr + 1 by omega, List.take_add_one, List.getElem?_drop, show fr + (i - fr) = i by omega, hb]
        rfl
      rw [htk] at hO
      repeat (first | (with_reducible (first | apply wA | apply wB | apply wC | apply wD | apply wE | apply wF | apply wG | apply wH | apply wI | apply wJ | apply wK | apply wL | apply wM | apply wN | apply wO | apply wP | apply wQ rfl | apply wR | apply wS | apply wT | apply wU)) | ((with_reducible (first | apply wV | apply wW | apply wX | (apply wY [] hTT cf0_ok noM_ok mixed; (focus kernel_rfl)))); (focus (simp only [Tryz.f126, hlt', hb, hbb, e4, f0, f1, l1, l2, List.length_map, go_sem]; with_reducible rfl))) | (with_reducible refine wZ hTT cf0_ok noM_ok ?_) | (with_reducible refine wa ?_; refine And.intro ?_ ?_; (focus kernel_rfl)))
      refine roundQ.t 1 [7, 6, 5, 0, 1] hlt (by simp only [ltB_strs, go_sem]) ⟨O, fr, hO, by omega, by omega, by simp only [go_sem]⟩
  · have hlt' : ¬ (i : Int) < s.length := by omega
    obtain rfl : i = s.length := by omega
    rw [List.drop_length] at hO
    have hO : splF c s = O ++ [(s.drop fr).take (s.length - fr)] := hO
    repeat (first | (with_reducible (first | apply wA | apply wB | apply wC | apply wD | apply wE | apply wF | apply wG | apply wH | apply wI | apply wJ | apply wK | apply wL | apply wM | apply wN | apply wO | apply wP | apply wQ rfl | apply wR | apply wS | apply wT | apply wU)) | ((with_reducible (first | apply wV | apply wW | apply wX | (apply wY [] hTT cf0_ok noM_ok mixed; (focus kernel_rfl)))); (focus (simp only [Tryz.f126, hlt', f0, l1, l2, List.length_map, go_sem]; with_reducible rfl))) | (with_reducible refine wZ hTT cf0_ok noM_ok ?_) | (with_reducible refine wa ?_; refine And.intro ?_ ?_; (focus kernel_rfl)))
    rw [hO]
    exact ⟨rfl, rfl, _, rfl, (leave_row (id := 0) (z := false) (frz := false) (m := O.length + 1) (es := O.map PV.str ++ [.str ((s.drop fr).take (s.length - fr))]) rfl (by rw [← List.map_singleton (f := PV.str), ← List.map_append]; exact closedL_strs _) (by simp)).trans (by rw [List.map_append]; rfl)⟩
theorem cpv_u8 (n : Int) (h1 : 0 ≤ n) (h2 : n ≤ 255) : cpv (.int .u8 n) = some (.int .u8 n) := by
  have hw : (Lit.int .u8 n).wf = true := by simp [Lit.wf, IntKind.min, IntKind.max, IntKind.signed, IntKind.bits]; omega
  simp [cpv, zpv, hw]
attribute [go_sem] cpv_u8
theorem number2_160 (w : List UInt8) (hw : w.length ≤ 100000) : CallOk Tryz.prog 160 [.str w, ii 2] [] (.ret (.tuple [ii (num2 w).1, .bool (num2 w).2])) [] := by
  refine CallOk.of0 hTT Tryz.func160 rfl rfl ?_
  cases hw0 : w.head? with
  | none =>
    obtain rfl : w = [] := List.head?_eq_none_iff.1 hw0
    have h01 : ¬ (0 : Int) < ((0 : Nat) : Int) := Int.lt_irrefl _
    have h02 : ((0 : Nat) : Int) < 1 := by decide
    repeat (first | (with_reducible (first | apply wA | apply wB | apply wC | apply wD | apply wE | apply wF | apply wG | apply wH | apply wI | apply wJ | apply wK | apply wL | apply wM | apply wN | apply wO | apply wP | apply wQ rfl | apply wR | apply wS | apply wT | apply wU)) | ((with_reducible (first | apply wV | apply wW | apply wX | (apply wY [] hTT cfNa_ok noM_ok mixed; (focus kernel_rfl)))); (focus (simp only [Tryz.f160, h01, h02, gt_iff_lt, List.length_nil, go_sem]; with_reducible rfl))) | (with_reducible refine wZ hTT cfNa_ok noM_ok ?_) | (with_reducible refine wa ?_; refine And.intro ?_ ?_; (focus kernel_rfl)))
    exact ⟨rfl, rfl, _, rfl, rfl⟩
  | some b =>
  have hb : w[0]? = some b := by rw [← List.head?_eq_getElem?]; exact hw0
  have hl0 : (0 : Int) < (w.length : Nat) := by have := (List.getElem?_eq_some_iff.1 hb).1; omega
  have hl1 : (1 : Int) ≤ (w.length : Nat) := by omega
  have hsl := tail_cut w
  have htl : w.tail.length ≤ 100000 := by rw [List.length_tail]; omega
  have hbb : (((b.toNat : Nat) : Int) == 45) = negW w := by
    unfold negW
    rw [hw0]
    by_cases h : b = 45
    · subst h; rfl
    · have h2 : ¬ b.toNat = 45 := fun e => h (UInt8.toNat_inj.1 e)
      have h3 : ¬ ((b.toNat : Nat) : Int) = 45 := by omega
      rw [Bool.eq_iff_iff]
      simp [h, h3]
  cases hn : negW w
  · have hm : magW w = w := by unfold magW; rw [hn]; rfl
    rw [hn] at hbb
    have hsg : ∀ n : Nat, (1 : Int) * (n : Int) = sgnW w n := fun n => by unfold sgnW; rw [hn, Int.one_mul]; rfl
    repeat (first | (with_reducible (first | apply wA | ((fail_if_success (refine RunQ.seq (x := .region 4 _ _) ?_)); (apply wB)) | apply wC | apply wD | apply wE | apply wF | apply wG | apply wH | apply wI | apply wJ | apply wK | apply wL | apply wM | apply wN | apply wO | apply wP | apply wQ rfl | apply wR | apply wS | apply wT | apply wU)) | ((with_reducible (first | apply wV | apply wW | apply wX | (apply wY [] hTT cfNa_ok noM_ok mixed; (focus kernel_rfl)))); (focus (simp only [Tryz.f160, hl0, hl1, hb, hbb, hsl, gt_iff_lt, go_sem]; with_reducible rfl))) | ((fail_if_success (with_reducible show RunQ _ (.region 4 _ _) _ _)); (with_reducible refine wZ hTT cfNa_ok noM_ok ?_)) | (with_reducible refine wa ?_; refine And.intro ?_ ?_; (focus kernel_rfl)))
    refine RunQ.keep [7, 6, 0, 1] (by simp only [go_sem]; rfl) ?_

    have hnum : num2 w = (if w.length = 0 ∨ 2 < w.length then (0, false) else match digA 0 w with
      | none => (0, false)
      | some n => (sgnW w n, itoaF (sgnW w n) == w)) := by unfold num2; rw [hm]; rfl
    rw [hnum]
    clear hnum
    by_cases hl : w.length = 0 ∨ 2 < w.length
    · rw [if_pos hl]
      by_cases hz : w.length = 0
      · have c1 : ((w.length : Nat) : Int) < 1 := by omega
        repeat (first | (with_reducible (first | apply wA | apply wB | apply wC | apply wD | apply wE | apply wF | apply wG | apply wH | apply wI | apply wJ | apply wK | apply wL | apply wM | apply wN | apply wO | apply wP | apply wQ rfl | apply wR | apply wS | apply wT | apply wU)) | ((with_reducible (first | apply wV | apply wW | apply wX | (apply wY [] hTT cfNa_ok noM_ok mixed; (focus kernel_rfl)))); (focus (simp only [Tryz.f160, cfNa, c1, gt_iff_lt, go_sem]; with_reducible rfl))) | (with_reducible refine wZ hTT cfNa_ok noM_ok ?_) | (with_reducible refine wa ?_; refine And.intro ?_ ?_; (focus kernel_rfl)))
        exact ⟨rfl, rfl, _, rfl, rfl⟩
      · have c1 : ¬ ((w.length : Nat) : Int) < 1 := by omega
        have c2 : (2 : Int) < ((w.length : Nat) : Int) := by omega
        repeat (first | (with_reducible (first | apply wA | apply wB | apply wC | apply wD | apply wE | apply wF | apply wG | apply wH | apply wI | apply wJ | apply wK | apply wL | apply wM | apply wN | apply wO | apply wP | apply wQ rfl | apply wR | apply wS | apply wT | apply wU)) | ((with_reducible (first | apply wV | apply wW | apply wX | (apply wY [] hTT cfNa_ok noM_ok mixed; (focus kernel_rfl)))); (focus (simp only [Tryz.f160, cfNa, c1, c2, gt_iff_lt, go_sem]; with_reducible rfl))) | (with_reducible refine wZ hTT cfNa_ok noM_ok ?_) | (with_reducible refine wa ?_; refine And.intro ?_ ?_; (focus kernel_rfl)))
        exact ⟨rfl, rfl, _, rfl, rfl⟩
    rw [if_neg hl]
    have c1 : ¬ ((w.length : Nat) : Int) < 1 := by omega
    have c2 : ¬ (2 : Int) < ((w.length : Nat) : Int) := by omega
    repeat (first | (with_reducible (first | apply wA | apply wB | apply wC | apply wD | apply wE | apply wF | apply wG | apply wH | apply wI | apply wJ | apply wK | apply wL | apply wM | apply wN | apply wO | apply wP | apply wQ rfl | apply wR | apply wS | apply wT | apply wU)) | ((with_reducible (first | apply wV | apply wW | apply wX | (apply wY [] hTT cfNa_ok noM_ok mixed; (focus kernel_rfl)))); (focus (simp only [Tryz.f160, cfNa, c1, c2, gt_iff_lt, go_sem]; with_reducible rfl))) | (with_reducible refine wZ hTT cfNa_ok noM_ok ?_) | (with_reducible refine wa ?_; refine And.intro ?_ ?_; (focus kernel_rfl)))
    refine RunQ.keep [9, 8, 7, 6, 0] (by simp only [go_sem]; rfl) ?_
    refine RunQ.loop (fun i s' => ∃ n : Nat, digA 0 w = digA n (w.drop i) ∧ n < 10 ^ i ∧ s' = ⟨[(9, ii i), (8, ii n), (7, .str w), (6, ii 1), (0, .str w)], 63, []⟩) w.length ⟨0, rfl, by decide, rfl⟩ ?_
    rintro i _ hi ⟨n, hd, hn, rfl⟩
    by_cases hlt : i < w.length
    · obtain ⟨x, hx⟩ : ∃ x, w[i]? = some x := ⟨_, List.getElem?_eq_getElem hlt⟩
      have hlt' : (i : Int) < ((w.length : Nat) : Int) := by omega
      have e4 : IntKind.i64.wrap ((i : Int) + 1) = ((i + 1 : Nat) : Int) := wrap_id (by omega) (by omega)
      rw [drop_get hx, digA] at hd
      have hxl := x.toNat_lt
      cases hg : isDig x
      · rw [hg] at hd
        have hd : digA 0 w = none := hd
        rw [hd]
        by_cases c3 : ((x.toNat : Nat) : Int) < 48
        · repeat (first | (with_reducible (first | apply wA | apply wB | apply wC | apply wD | apply wE | apply wF | apply wG | apply wH | apply wI | apply wJ | apply wK | apply wL | apply wM | apply wN | apply wO | apply wP | apply wQ rfl | apply wR | apply wS | apply wT | apply wU)) | ((with_reducible (first | apply wV | apply wW | apply wX | (apply wY [] hTT cfNa_ok noM_ok mixed; (focus kernel_rfl)))); (focus (simp only [Tryz.f160, hlt', hx, c3, gt_iff_lt, go_sem]; with_reducible rfl))) | (with_reducible refine wZ hTT cfNa_ok noM_ok ?_) | (with_reducible refine wa ?_; refine And.intro ?_ ?_; (focus kernel_rfl)))
          exact ⟨rfl, rfl, _, rfl, rfl⟩
        · have c4 : (57 : Int) < ((x.toNat : Nat) : Int) := by
            rcases Int.lt_or_le 57 ((x.toNat : Nat) : Int) with h | h
            · exact h
            · have := isDig_iff.2 ⟨(by omega : 48 ≤ x.toNat), by omega⟩
              rw [hg] at this
              cases this
          repeat (first | (with_reducible (first | apply wA | apply wB | apply wC | apply wD | apply wE | apply wF | apply wG | apply wH | apply wI | apply wJ | apply wK | apply wL | apply wM | apply wN | apply wO | apply wP | apply wQ rfl | apply wR | apply wS | apply wT | apply wU)) | ((with_reducible (first | apply wV | apply wW | apply wX | (apply wY [] hTT cfNa_ok noM_ok mixed; (focus kernel_rfl)))); (focus (simp only [Tryz.f160, hlt', hx, c3, c4, gt_iff_lt, go_sem]; with_reducible rfl))) | (with_reducible refine wZ hTT cfNa_ok noM_ok ?_) | (with_reducible refine wa ?_; refine And.intro ?_ ?_; (focus kernel_rfl)))
          exact ⟨rfl, rfl, _, rfl, rfl⟩
      · obtain ⟨e1, e2⟩ := isDig_iff.1 hg
        rw [hg, if_pos rfl] at hd
        have c3 : ¬ ((x.toNat : Nat) : Int) < 48 := by omega
        have c4 : ¬ (57 : Int) < ((x.toNat : Nat) : Int) := by omega
        have hn9 : n < 100 := by
          have : 10 ^ i ≤ 10 ^ 2 := Nat.pow_le_pow_right (by decide) (by omega)
          omega
        have w1 : IntKind.i64.wrap (10 * (n : Int)) = ((10 * n : Nat) : Int) := (wrap_id (by omega) (by omega)).trans (by omega)
        have w2 : IntKind.u8.wrap (((x.toNat : Nat) : Int) - 48) = ((x.toNat - 48 : Nat) : Int) := by
          rw [show ((x.toNat : Nat) : Int) - 48 = ((x.toNat - 48 : Nat) : Int) by omega]
          exact wrap8 (by omega) (by omega)
        have w3 : IntKind.i64.wrap ((x.toNat - 48 : Nat) : Int) = ((x.toNat - 48 : Nat) : Int) := wrap_id (by omega) (by omega)
        have w4 : IntKind.i64.wrap (((10 * n : Nat) : Int) + ((x.toNat - 48 : Nat) : Int)) = ((10 * n + (x.toNat - 48) : Nat) : Int) := (wrap_id (by omega) (by omega)).trans (by omega)
        have hlow : 10 * n + (x.toNat - 48) < 10 ^ (i + 1) := by rw [Nat.pow_succ]; omega
        generalize x.toNat - 48 = q at w2 w3 w4 hd hlow
        generalize 10 * n = p at w1 w4 hd hlow
        repeat (first | (with_reducible (first | apply wA | apply wB | apply wC | apply wD | apply wE | apply wF | apply wG | apply wH | apply wI | apply wJ | apply wK | apply wL | apply wM | apply wN | apply wO | apply wP | apply wQ rfl | apply wR | apply wS | apply wT | apply wU)) | ((with_reducible (first | apply wV | apply wW | apply wX | (apply wY [] hTT cfNa_ok noM_ok mixed; (focus kernel_rfl)))); (focus (simp only [Tryz.f160, hlt', hx, c3, c4, w1, w2, w3, w4, e4, gt_iff_lt, go_sem]; with_reducible rfl))) | (with_reducible refine wZ hTT cfNa_ok noM_ok ?_) | (with_reducible refine wa ?_; refine And.intro ?_ ?_; (focus kernel_rfl)))
        refine roundQ.t 0 [9, 8, 7, 6, 0] hlt (by simp only [go_sem]) ⟨p + q, hd, hlow, by simp only [go_sem]⟩
    · have hlt' : ¬ (i : Int) < ((w.length : Nat) : Int) := by omega
      obtain rfl : i = w.length := by omega
      rw [List.drop_length] at hd
      have hd : digA 0 w = some n := hd
      rw [hd]
      have hn9 : n < 100 := by
        have : 10 ^ w.length ≤ 10 ^ 2 := Nat.pow_le_pow_right (by decide) (by omega)
        omega
      have hxx : IntKind.i64.wrap (1 * (n : Int)) = sgnW w n := by rw [← hsg]; exact wrap_id (by omega) (by omega)
      have hsm : (sgnW w n).natAbs < 1000000 := by rw [← hsg]; omega
      dsimp only
      generalize sgnW w n = y at hxx hsm ⊢
      repeat (first | (with_reducible (first | apply wA | apply wB | apply wC | apply wD | apply wE | apply wF | apply wG | apply wH | apply wI | apply wJ | apply wK | apply wL | apply wM | apply wN | apply wO | apply wP | apply wQ rfl | apply wR | apply wS | apply wT | apply wU)) | ((with_reducible (first | apply wV | apply wW | apply wX | (apply wY [] hTT cfNa_ok noM_ok mixed; (focus kernel_rfl)))); (focus (simp only [Tryz.f160, cfNa, c159, hlt', hxx, hsm, go_sem]; with_reducible rfl))) | (with_reducible refine wZ hTT cfNa_ok noM_ok ?_) | (with_reducible refine wa ?_; refine And.intro ?_ ?_; (focus kernel_rfl)))
      exact ⟨rfl, rfl, _, rfl, rfl⟩
  · have hm : magW w = w.tail := by unfold magW; rw [hn]; rfl
    rw [hn] at hbb
    have hsg : ∀ n : Nat, (-1 : Int) * (n : Int) = sgnW w n := fun n => by unfold sgnW; rw [hn, Int.neg_one_mul]; rfl
    repeat (first | (with_reducible (first | apply wA | ((fail_if_success (refine RunQ.seq (x := .region 4 _ _) ?_)); (apply wB)) | apply wC | apply wD | apply wE | apply wF | apply wG | apply wH | apply wI | apply wJ | apply wK | apply wL | apply wM | apply wN | apply wO | apply wP | apply wQ rfl | apply wR | apply wS | apply wT | apply wU)) | ((with_reducible (first | apply wV | apply wW | apply wX | (apply wY [] hTT cfNa_ok noM_ok mixed; (focus kernel_rfl)))); (focus (simp only [Tryz.f160, hl0, hl1, hb, hbb, hsl, gt_iff_lt, go_sem]; with_reducible rfl))) | ((fail_if_success (with_reducible show RunQ _ (.region 4 _ _) _ _)); (with_reducible refine wZ hTT cfNa_ok noM_ok ?_)) | (with_reducible refine wa ?_; refine And.intro ?_ ?_; (focus kernel_rfl)))
    refine RunQ.keep [7, 6, 0, 1] (by simp only [go_sem]; rfl) ?_
    generalize hM : w.tail = M at hm htl ⊢

    have hnum : num2 w = (if M.length = 0 ∨ 2 < M.length then (0, false) else match digA 0 M with
      | none => (0, false)
      | some n => (sgnW w n, itoaF (sgnW w n) == w)) := by unfold num2; rw [hm]; rfl
    rw [hnum]
    clear hnum
    by_cases hl : M.length = 0 ∨ 2 < M.length
    · rw [if_pos hl]
      by_cases hz : M.length = 0
      · have c1 : ((M.length : Nat) : Int) < 1 := by omega
        repeat (first | (with_reducible (first | apply wA | apply wB | apply wC | apply wD | apply wE | apply wF | apply wG | apply wH | apply wI | apply wJ | apply wK | apply wL | apply wM | apply wN | apply wO | apply wP | apply wQ rfl | apply wR | apply wS | apply wT | apply wU)) | ((with_reducible (first | apply wV | apply wW | apply wX | (apply wY [] hTT cfNa_ok noM_ok mixed; (focus kernel_rfl)))); (focus (simp only [Tryz.f160, cfNa, c1, gt_iff_lt, go_sem]; with_reducible rfl))) | (with_reducible refine wZ hTT cfNa_ok noM_ok ?_) | (with_reducible refine wa ?_; refine And.intro ?_ ?_; (focus kernel_rfl)))
        exact ⟨rfl, rfl, _, rfl, rfl⟩
      · have c1 : ¬ ((M.length : Nat) : Int) < 1 := by omega
        have c2 : (2 : Int) < ((M.length : Nat) : Int) := by omega
        repeat (first | (with_reducible (first | apply wA | apply wB | apply wC | apply wD | apply wE | apply wF | apply wG | apply wH | apply wI | apply wJ | apply wK | apply wL | apply wM | apply wN | apply wO | apply wP | apply wQ rfl | apply wR | apply wS | apply wT | apply wU)) | ((with_reducible (first | apply wV | apply wW | apply wX | (apply wY [] hTT cfNa_ok noM_ok mixed; (focus kernel_rfl)))); (focus (simp only [Tryz.f160, cfNa, c1, c2, gt_iff_lt, go_sem]; with_reducible rfl))) | (with_reducible refine wZ hTT cfNa_ok noM_ok ?_) | (with_reducible refine wa ?_; refine And.intro ?_ ?_; (focus kernel_rfl)))
        exact ⟨rfl, rfl, _, rfl, rfl⟩
    rw [if_neg hl]
    have c1 : ¬ ((M.length : Nat) : Int) < 1 := by omega
    have c2 : ¬ (2 : Int) < ((M.length : Nat) : Int) := by omega
    repeat (first | (with_reducible (first | apply wA | apply wB | apply wC | apply wD | apply wE | apply wF | apply wG | apply wH | apply wI | apply wJ | apply wK | apply wL | apply wM | apply wN | apply wO | apply wP | apply wQ rfl | apply wR | apply wS | apply wT | apply wU)) | ((with_reducible (first | apply wV | apply wW | apply wX | (apply wY [] hTT cfNa_ok noM_ok mixed; (focus kernel_rfl)))); (focus (simp only [Tryz.f160, cfNa, c1, c2, gt_iff_lt, go_sem]; with_reducible rfl))) | (with_reducible refine wZ hTT cfNa_ok noM_ok ?_) | (with_reducible refine wa ?_; refine And.intro ?_ ?_; (focus kernel_rfl)))
    refine RunQ.keep [9, 8, 7, 6, 0] (by simp only [go_sem]; rfl) ?_
    refine RunQ.loop (fun i s' => ∃ n : Nat, digA 0 M = digA n (M.drop i) ∧ n < 10 ^ i ∧ s' = ⟨[(9, ii i), (8, ii n), (7, .str M), (6, ii (-1)), (0, .str w)], 63, []⟩) M.length ⟨0, rfl, by decide, rfl⟩ ?_
    rintro i _ hi ⟨n, hd, hn, rfl⟩
    by_cases hlt : i < M.length
    · obtain ⟨x, hx⟩ : ∃ x, M[i]? = some x := ⟨_, List.getElem?_eq_getElem hlt⟩
      have hlt' : (i : Int) < ((M.length : Nat) : Int) := by omega
      have e4 : IntKind.i64.wrap ((i : Int) + 1) = ((i + 1 : Nat) : Int) := wrap_id (by omega) (by omega)
      rw [drop_get hx, digA] at hd
      have hxl := x.toNat_lt
      cases hg : isDig x
      · rw [hg] at hd
        have hd : digA 0 M = none := hd
        rw [hd]
        by_cases c3 : ((x.toNat : Nat) : Int) < 48
        · repeat (first | (with_reducible (first | apply wA | apply wB | apply wC | apply wD | apply wE | apply wF | apply wG | apply wH | apply wI | apply wJ | apply wK | apply wL | apply wM | apply wN | apply wO | apply wP | apply wQ rfl | apply wR | apply wS | apply wT | apply wU)) | ((with_reducible (first | apply wV | apply wW | apply wX | (apply wY [] hTT cfNa_ok noM_ok mixed; (focus kernel_rfl)))); (focus (simp only [Tryz.f160, hlt', hx, c3, gt_iff_lt, go_sem]; with_reducible rfl))) | (with_reducible refine wZ hTT cfNa_ok noM_ok ?_) | (with_reducible refine wa ?_; refine And.intro ?_ ?_; (focus kernel_rfl)))
          exact ⟨rfl, rfl, _, rfl, rfl⟩
        · have c4 : (57 : Int) < ((x.toNat : Nat) : Int) := by
            rcases Int.lt_or_le 57 ((x.toNat : Nat) : Int) with h | h
            · exact h
            · have := isDig_iff.2 ⟨(by omega : 48 ≤ x.toNat), by omega⟩
              rw [hg] at this
              cases this
          repeat (first | (with_reducible (first | apply wA | apply wB | apply wC | apply wD | apply wE | apply wF | apply wG | apply wH | apply wI | apply wJ | apply wK | apply wL | apply wM | apply wN | apply wO | apply wP | apply wQ rfl | apply wR | apply wS | apply wT | apply wU)) | ((with_reducible (first | apply wV | apply wW | apply wX | (apply wY [] hTT cfNa_ok noM_ok mixed; (focus kernel_rfl)))); (focus (simp only [Tryz.f160, hlt', hx, c3, c4, gt_iff_lt, go_sem]; with_reducible rfl))) | (with_reducible refine wZ hTT cfNa_ok noM_ok ?_) | (with_reducible refine wa ?_; refine And.intro ?_ ?_; (focus kernel_rfl)))
          exact ⟨rfl, rfl, _, rfl, rfl⟩
      · obtain ⟨e1, e2⟩ := isDig_iff.1 hg
        rw [hg, if_pos rfl] at hd
        have c3 : ¬ ((x.toNat : Nat) : Int) < 48 := by omega
        have c4 : ¬ (57 : Int) < ((x.toNat : Nat) : Int) := by omega
        have hn9 : n < 100 := by
          have : 10 ^ i ≤ 10 ^ 2 := Nat.pow_le_pow_right (by decide) (by omega)
          omega
        have w1 : IntKind.i64.wrap (10 * (n : Int)) = ((10 * n : Nat) : Int) := (wrap_id (by omega) (by omega)).trans (by omega)
        have w2 : IntKind.u8.wrap (((x.toNat : Nat) : Int) - 48) = ((x.toNat - 48 : Nat) : Int) := by
          rw [show ((x.toNat : Nat) : Int) - 48 = ((x.toNat - 48 : Nat) : Int) by omega]
          exact wrap8 (by omega) (by omega)
        have w3 : IntKind.i64.wrap ((x.toNat - 48 : Nat) : Int) = ((x.toNat - 48 : Nat) : Int) := wrap_id (by omega) (by omega)
        have w4 : IntKind.i64.wrap (((10 * n : Nat) : Int) + ((x.toNat - 48 : Nat) : Int)) = ((10 * n + (x.toNat - 48) : Nat) : Int) := (wrap_id (by omega) (by omega)).trans (by omega)
        have hlow : 10 * n + (x.toNat - 48) < 10 ^ (i + 1) := by rw [Nat.pow_succ]; omega
        generalize x.toNat - 48 = q at w2 w3 w4 hd hlow
        generalize 10 * n = p at w1 w4 hd hlow
        repeat (first | (with_reducible (first | apply wA | apply wB | apply wC | apply wD | apply wE | apply wF | apply wG | apply wH | apply wI | apply wJ | apply wK | apply wL | apply wM | apply wN | apply wO | apply wP | apply wQ rfl | apply wR | apply wS | apply wT | apply wU)) | ((with_reducible (first | apply wV | apply wW | apply wX | (apply wY [] hTT cfNa_ok noM_ok mixed; (focus kernel_rfl)))); (focus (simp only [Tryz.f160, hlt', hx, c3, c4, w1, w2, w3, w4, e4, gt_iff_lt, go_sem]; with_reducible rfl))) | (with_reducible refine wZ hTT cfNa_ok noM_ok ?_) | (with_reducible refine wa ?_; refine And.intro ?_ ?_; (focus kernel_rfl)))
        refine roundQ.t 0 [9, 8, 7, 6, 0] hlt (by simp only [go_sem]) ⟨p + q, hd, hlow, by simp only [go_sem]⟩
    · have hlt' : ¬ (i : Int) < ((M.length : Nat) : Int) := by omega
      obtain rfl : i = M.length := by omega
      rw [List.drop_length] at hd
      have hd : digA 0 M = some n := hd
      rw [hd]
      have hn9 : n < 100 := by
        have : 10 ^ M.length ≤ 10 ^ 2 := Nat.pow_le_pow_right (by decide) (by omega)
        omega
      have hxx : IntKind.i64.wrap ((-1) * (n : Int)) = sgnW w n := by rw [← hsg]; exact wrap_id (by omega) (by omega)
      have hsm : (sgnW w n).natAbs < 1000000 := by rw [← hsg]; omega
      dsimp only
      generalize sgnW w n = y at hxx hsm ⊢
      repeat (first | (with_reducible (first | apply wA | apply wB | apply wC | apply wD | apply wE | apply wF | apply wG | apply wH | apply wI | apply wJ | apply wK | apply wL | apply wM | apply wN | apply wO | apply wP | apply wQ rfl | apply wR | apply wS | apply wT | apply wU)) | ((with_reducible (first | apply wV | apply wW | apply wX | (apply wY [] hTT cfNa_ok noM_ok mixed; (focus kernel_rfl)))); (focus (simp only [Tryz.f160, cfNa, c159, hlt', hxx, hsm, go_sem]; with_reducible rfl))) | (with_reducible refine wZ hTT cfNa_ok noM_ok ?_) | (with_reducible refine wa ?_; refine And.intro ?_ ?_; (focus kernel_rfl)))
      exact ⟨rfl, rfl, _, rfl, rfl⟩
def c160 : List PV → List Box → Option (PRes × List Box)
  | [.str w, .int .i64 k], sg => if k = 2 ∧ w.length ≤ 100000 then some (.ret (.tuple [ii (num2 w).1, .bool (num2 w).2]), sg) else none
  | _, _ => none
theorem c160_ok : ConOk Tryz.prog 160 c160 := ConOk.of0 (ent Tryz.func160 rfl) fun args sg r sg' h => by
  unfold c160 at h
  split at h <;> try (cases h; done)
  split at h <;> cases h
  rename_i hc
  obtain ⟨rfl, hc⟩ := hc
  exact ⟨_, rfl, rfl, rfl, number2_160 _ hc⟩
end Go.Pv
namespace Go.Pv
open Go Go.RowKit Go.Proofs
set_option maxRecDepth 200000
set_option maxHeartbeats 8000000
def numsR (ws : List (List UInt8)) : PV := match numsW ws with
  | some l => .tuple [.sl (if decide (l.length = 0) = true then .n else .a) (l.map ii), .bool true]
  | none => .tuple [.sl .n [], .bool false]
def cfNo : CallF := cfAdd cf0 160 c160
theorem cfNo_ok : CallFOk Tryz.prog cfNo := cfAdd_ok cf0_ok c160_ok
theorem Numbers_127 (z : Z) (ws : List (List UInt8)) (hz : z = .n → ws = []) (hw : ws.length ≤ 100000) (hl : ∀ x ∈ ws, x.length ≤ 100000) : CallOk Tryz.prog 127 [.sl z (ws.map PV.str), ii 2] [] (.ret (numsR ws)) [] := by
  refine CallOk.ofF hTT Tryz.func127 rfl rfl ?_
  unfold numsR
  repeat (first | (with_reducible (first | apply wA | apply wB | apply wC | apply wD | apply wE | apply wF | apply wG | apply wH | apply wI | apply wJ | apply wK | apply wL | apply wM | apply wN | apply wO | apply wP | apply wQ rfl | apply wR | apply wS | apply wT | apply wU)) | ((with_reducible (first | apply wV | apply wW | apply wX | (apply wY [] hTT cfNo_ok noM_ok mixed; (focus kernel_rfl)))); (focus (simp only [Tryz.f127, go_sem]; with_reducible rfl))) | (with_reducible refine wZ hTT cfNo_ok noM_ok ?_) | (with_reducible refine wa ?_; refine And.intro ?_ ?_; (focus kernel_rfl)))
  refine RunQ.keep [7, 6, 0, 1] (by simp only [go_sem]; rfl) ?_
  refine RunQ.nilRow 6 3 1 (by simp only [go_sem]) (by simp only [go_sem]; rfl) (by simp only [go_sem]; rfl) ?_
  refine RunQ.loop (fun i s' => ∃ l : List Int, (numsW ws = match numsW (ws.drop i) with
      | some r => some (l ++ r)
      | none => none) ∧ l.length = i ∧ s' = ⟨[(7, ii i), (6, .ms 0 i), (0, .sl z (ws.map PV.str)), (1, ii 2)], 32, [.row (decide (i = 0)) 3 1 (l.map ii) false]⟩) ws.length ⟨[], by rw [List.drop_zero]; cases numsW ws <;> rfl, rfl, rfl⟩ ?_
  rintro i _ hi ⟨l, hm, hll, rfl⟩
  by_cases hlt : i < ws.length
  · obtain ⟨x, hx⟩ : ∃ x, ws[i]? = some x := ⟨_, List.getElem?_eq_getElem hlt⟩
    have hx' : (ws.map PV.str)[i]? = some (.str x) := by rw [List.getElem?_map, hx]; rfl
    have hlt' : (i : Int) < ws.length := by omega
    have hz' : z ≠ .n := fun e => by rw [hz e] at hlt; simp at hlt
    have e4 : IntKind.i64.wrap ((i : Int) + 1) = ((i + 1 : Nat) : Int) := wrap_id (by omega) (by omega)
    have hxl := hl x (List.mem_of_getElem? hx)
    have l1 : i + 1 ≤ maxLen := by unfold maxLen; omega
    have l2 : (i + 1) * 8 ≤ 140737488355328 := by omega
    have hd1 : decide (i + 1 = 0) = false := by simp
    rw [drop_get hx] at hm
    cases h2 : (num2 x).2
    · have hN : numW x = none := by unfold numW; rw [h2]; rfl
      have hm : numsW ws = none := by rw [hm, numsW, hN]
      rw [hm]
      dsimp only
      repeat (first | (with_reducible (first | apply wA | apply wB | apply wC | apply wD | apply wE | apply wF | apply wG | apply wH | apply wI | apply wJ | apply wK | apply wL | apply wM | apply wN | apply wO | apply wP | apply wQ rfl | apply wR | apply wS | apply wT | apply wU)) | ((with_reducible (first | apply wV | apply wW | apply wX | (apply wY [] hTT cfNo_ok noM_ok mixed; (focus kernel_rfl)))); (focus (simp only [Tryz.f127, cfNo, c160, hlt', hx', hz', hxl, h2, List.length_map, go_sem]; with_reducible rfl))) | (with_reducible refine wZ hTT cfNo_ok noM_ok ?_) | (with_reducible refine wa ?_; refine And.intro ?_ ?_; (focus kernel_rfl)))
      exact ⟨rfl, rfl, _, rfl, leave_closed rfl⟩
    · have hN : numW x = some (num2 x).1 := by unfold numW; rw [h2]; rfl
      have hm : numsW ws = match numsW (ws.drop (i + 1)) with
          | some r => some ((l ++ [(num2 x).1]) ++ r)
          | none => none := by
        rw [hm, numsW, hN]
        cases numsW (ws.drop (i + 1)) with
        | some r => simp
        | none => rfl
      generalize h1n : (num2 x).1 = n at hm
      repeat (first | (with_reducible (first | apply wA | apply wB | apply wC | apply wD | apply wE | apply wF | apply wG | apply wH | apply wI | apply wJ | apply wK | apply wL | apply wM | apply wN | apply wO | apply wP | apply wQ rfl | apply wR | apply wS | apply wT | apply wU)) | ((with_reducible (first | apply wV | apply wW | apply wX | (apply wY [] hTT cfNo_ok noM_ok mixed; (focus kernel_rfl)))); (focus (simp only [Tryz.f127, cfNo, c160, hlt', hx', hz', hxl, h2, h1n, e4, hll, l1, l2, List.length_map, go_sem]; with_reducible rfl))) | (with_reducible refine wZ hTT cfNo_ok noM_ok ?_) | (with_reducible refine wa ?_; refine And.intro ?_ ?_; (focus kernel_rfl)))
      refine roundQ.t 1 [7, 6, 0, 1] hlt (by simp only [ltB_strs, ltB_is, ltBL_append, go_sem]) ⟨l ++ [n], hm, by simp [hll], by rw [List.map_append]; simp only [hd1, go_sem]⟩
  · have hlt' : ¬ (i : Int) < ws.length := by omega
    obtain rfl : i = ws.length := by omega
    rw [List.drop_length] at hm
    have hm : numsW ws = some l := by rw [hm]; simp [numsW]
    rw [hm]
    dsimp only
    repeat (first | (with_reducible (first | apply wA | apply wB | apply wC | apply wD | apply wE | apply wF | apply wG | apply wH | apply wI | apply wJ | apply wK | apply wL | apply wM | apply wN | apply wO | apply wP | apply wQ rfl | apply wR | apply wS | apply wT | apply wU)) | ((with_reducible (first | apply wV | apply wW | apply wX | (apply wY [] hTT cfNo_ok noM_ok mixed; (focus kernel_rfl)))); (focus (simp only [Tryz.f127, hlt', List.length_map, go_sem]; with_reducible rfl))) | (with_reducible refine wZ hTT cfNo_ok noM_ok ?_) | (with_reducible refine wa ?_; refine And.intro ?_ ?_; (focus kernel_rfl)))
    exact ⟨rfl, rfl, _, rfl, by rw [hll]; exact leave_row2 (id := 0) (z := decide (ws.length = 0)) (frz := false) rfl (closedL_map (fun _ => rfl) _) (by rw [List.length_map, hll]) rfl⟩
def c127 : List PV → List Box → Option (PRes × List Box)
  | [.sl z es, .int .i64 k], sg => match decL decS es with
    | some ws => if k = 2 ∧ (z = .n → ws = []) ∧ ws.length ≤ 100000 ∧ (ws.all fun r => decide (r.length ≤ 100000)) = true then some (.ret (numsR ws), sg) else none
    | none => none
  | _, _ => none
theorem c127_ok : ConOk Tryz.prog 127 c127 := ConOk.of0 (ent Tryz.func127 rfl) fun args sg r sg' h => by
  unfold c127 at h
  split at h <;> try (cases h; done)
  split at h <;> try (cases h; done)
  rename_i h1
  split at h <;> cases h
  rename_i hc
  obtain rfl := decL_inv decS_inv h1
  obtain ⟨rfl, h2, h3, h4⟩ := hc
  exact ⟨_, rfl, rfl, by rw [ltBL_cons, ltB_sl, ltB_strs]; rfl, Numbers_127 _ _ h2 h3 (fun r hr => by simpa using List.all_eq_true.1 h4 r hr)⟩
end Go.Pv
