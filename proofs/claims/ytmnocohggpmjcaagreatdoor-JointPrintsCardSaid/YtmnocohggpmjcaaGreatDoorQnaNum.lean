/- Contracts: numbers, rows of words, the reference's. -/
import Derived.Test.YtmnocohggpmjcaaGreatDoorQiText
import Derived.Test.YtmnocohggpmjcaaGreatDoorQgEnds
import Derived.Test.YtmnocohggpmjcaaGreatDoorQwOrdered
set_option linter.all false
namespace Go.Pv
open Go Go.RowKit Go.Proofs
set_option maxRecDepth 200000
set_option maxHeartbeats 8000000
attribute [go_sem] convC bytesC isU8
theorem decF_small {k u : Nat} (h : u < 10) : decF (k + 1) u = [UInt8.ofNat (48 + u)] := by
  unfold decF; rw [if_pos h]
theorem decF_big {u : Nat} (h : 10 ≤ u) (h2 : u < 10 ^ 20) : decF 20 u = decF 20 (u / 10) ++ [UInt8.ofNat (48 + u % 10)] := by
  have e : decF 20 u = decF 19 (u / 10) ++ [UInt8.ofNat (48 + u % 10)] := by
    show (if u < 10 then _ else _) = _
    rw [if_neg (by omega)]
  rw [e, decF_eq 18 (u / 10) (by omega), decF_eq 19 (u / 10) (by omega)]
theorem itoa_a {n : Int} (h0 : -10 < n) (h1 : n < 0) : itoaF n = [45, UInt8.ofNat (48 - n).toNat] := by
  unfold itoaF
  rw [if_pos h1, decF_small (by omega)]
  congr 3; omega
theorem tdv_neg {n : Int} (h : n ≤ 0) : n.tdiv 10 = -((-n) / 10) := by
  have e : n = -(-n) := by omega
  rw [e, Int.neg_tdiv, Int.tdiv_eq_ediv_of_nonneg (by omega), Int.neg_neg]
theorem tmd_neg {n : Int} (h : n ≤ 0) : n.tmod 10 = -((-n) % 10) := by
  have e : n = -(-n) := by omega
  rw [e, Int.neg_tmod, Int.tmod_eq_emod_of_nonneg (by omega), Int.neg_neg]
theorem tdv_pos {n : Int} (h : 0 ≤ n) : n.tdiv 10 = n / 10 := Int.tdiv_eq_ediv_of_nonneg h
theorem tmd_pos {n : Int} (h : 0 ≤ n) : n.tmod 10 = n % 10 := Int.tmod_eq_emod_of_nonneg h
theorem itoa_b {n : Int} (h0 : n ≤ -10) (h1 : -1000000 < n) : itoaF n = itoaF (n.tdiv 10) ++ [UInt8.ofNat (48 - n.tmod 10).toNat] := by
  have e1 : n.tdiv 10 = -((n.natAbs / 10 : Nat) : Int) := by rw [tdv_neg (by omega)]; omega
  have e2 : n.tmod 10 = -((n.natAbs % 10 : Nat) : Int) := by rw [tmd_neg (by omega)]; omega
  unfold itoaF
  rw [if_pos (by omega), if_pos (by omega), decF_big (by omega) (by omega), e2]
  have e3 : (n.tdiv 10).natAbs = n.natAbs / 10 := by omega
  rw [e3, List.cons_append]
  congr 4; omega
theorem itoa_c {n : Int} (h0 : 0 ≤ n) (h1 : n < 10) : itoaF n = [UInt8.ofNat (48 + n).toNat] := by
  unfold itoaF
  rw [if_neg (by omega), decF_small (by omega)]
  congr 2
  omega
theorem itoa_d {n : Int} (h0 : 10 ≤ n) (h1 : n < 1000000) : itoaF n = itoaF (n.tdiv 10) ++ [UInt8.ofNat (48 + n.tmod 10).toNat] := by
  have e1 : n.tdiv 10 = ((n.toNat / 10 : Nat) : Int) := by rw [tdv_pos (by omega)]; omega
  have e2 : n.tmod 10 = ((n.toNat % 10 : Nat) : Int) := by rw [tmd_pos (by omega)]; omega
  unfold itoaF
  rw [if_neg (by omega), if_neg (by omega), decF_big (by omega) (by omega), e2]
  have e3 : (n.tdiv 10).toNat = n.toNat / 10 := by omega
  rw [e3]
  congr 3
theorem itoa_len : ∀ (k : Nat) (n : Int), n.natAbs < 10 ^ (k + 1) → k ≤ 5 → (itoaF n).length ≤ k + 2
  | 0, n, h, _ => by
    have h : n.natAbs < 10 := by simpa using h
    by_cases h0 : n < 0
    · rw [itoa_a (by omega) h0]; simp
    · rw [itoa_c (by omega) (by omega)]; simp
  | k + 1, n, h, hk => by
    have h6 : 10 ^ (k + 1 + 1) ≤ 10 ^ 6 := Nat.pow_le_pow_right (by decide) (by omega)
    have h10 : 10 ^ (k + 1 + 1) = 10 ^ (k + 1) * 10 := Nat.pow_succ ..
    by_cases h0 : n < 0
    · by_cases h1 : -10 < n
      · rw [itoa_a h1 h0]; simp
      · have := itoa_len k (n.tdiv 10) (by rw [tdv_neg (by omega)]; omega) (by omega)
        rw [itoa_b (by omega) (by omega)]
        rw [List.length_append]
        simp only [List.length_cons, List.length_nil]
        omega
    · by_cases h1 : n < 10
      · rw [itoa_c (by omega) h1]; simp
      · have := itoa_len k (n.tdiv 10) (by rw [tdv_pos (by omega)]; omega) (by omega)
        rw [itoa_d (by omega) (by omega)]
        rw [List.length_append]
        simp only [List.length_cons, List.length_nil]
        omega
theorem wrap8 {n : Int} (h0 : 0 ≤ n) (h1 : n ≤ 255) : IntKind.u8.wrap n = n := IntWalk.u8_in n ⟨h0, h1⟩
theorem Decimal_159 : ∀ (k : Nat) (n : Int), n.natAbs < 10 ^ (k + 1) → k ≤ 5 → CallOk Tryz.prog 159 [ii n] [] (.ret (.str (itoaF n))) [] := fun k => by
  induction k with
  | zero =>
    intro n h _
    refine CallOk.of0 hTT Tryz.func159 rfl rfl ?_
    have h : n.natAbs < 10 := by simpa using h
    by_cases h0 : n < 0
    · rw [itoa_a (by omega) h0]
      have g1 : (-10 : Int) < n := by omega
      have g2 : IntKind.i64.wrap (48 - n) = 48 - n := wrap_id (by omega) (by omega)
      have g3 : IntKind.u8.wrap (48 - n) = 48 - n := wrap8 (by omega) (by omega)
      repeat (first | (with_reducible (first | apply wA | apply wB | apply wC | apply wD | apply wE | apply wF | apply wG | apply wH | apply wI | apply wJ | apply wK | apply wL | apply wM | apply wN | apply wO | apply wP | apply wQ rfl | apply wR | apply wS | apply wT | apply wU)) | ((with_reducible (first | apply wV | apply wW | apply wX | (apply wY [] hTT cf0_ok noM_ok mixed; (focus kernel_rfl)))); (focus (simp only [Tryz.f159, h0, g1, g2, g3, gt_iff_lt, go_sem]; with_reducible rfl))) | (with_reducible refine wZ hTT cf0_ok noM_ok ?_) | (with_reducible refine wa ?_; refine And.intro ?_ ?_; (focus kernel_rfl)))
      exact ⟨rfl, rfl, _, rfl, rfl⟩
    · rw [itoa_c (by omega) (by omega)]
      have g1 : (-10 : Int) < n := by omega
      have g4 : n < 10 := by omega
      have g2 : IntKind.i64.wrap (48 + n) = 48 + n := wrap_id (by omega) (by omega)
      have g3 : IntKind.u8.wrap (48 + n) = 48 + n := wrap8 (by omega) (by omega)
      repeat (first | (with_reducible (first | apply wA | apply wB | apply wC | apply wD | apply wE | apply wF | apply wG | apply wH | apply wI | apply wJ | apply wK | apply wL | apply wM | apply wN | apply wO | apply wP | apply wQ rfl | apply wR | apply wS | apply wT | apply wU)) | ((with_reducible (first | apply wV | apply wW | apply wX | (apply wY [] hTT cf0_ok noM_ok mixed; (focus kernel_rfl)))); (focus (simp only [Tryz.f159, h0, g1, g2, g3, g4, gt_iff_lt, go_sem]; with_reducible rfl))) | (with_reducible refine wZ hTT cf0_ok noM_ok ?_) | (with_reducible refine wa ?_; refine And.intro ?_ ?_; (focus kernel_rfl)))
      exact ⟨rfl, rfl, _, rfl, rfl⟩
  | succ k ih =>
    intro n h hk
    refine CallOk.of0 hTT Tryz.func159 rfl rfl ?_
    have h6 : 10 ^ (k + 1 + 1) ≤ 10 ^ 6 := Nat.pow_le_pow_right (by decide) (by omega)
    have h10 : 10 ^ (k + 1 + 1) = 10 ^ (k + 1) * 10 := Nat.pow_succ ..
    have hl10 : ∀ m : Int, m.natAbs < 10 ^ (k + 1) → (itoaF m).length + 1 ≤ maxLen := fun m hm => by
      have := itoa_len k m hm (by omega)
      unfold maxLen; omega
    by_cases h0 : n < 0
    · by_cases g1 : (-10 : Int) < n
      · rw [itoa_a (by omega) h0]
        have g2 : IntKind.i64.wrap (48 - n) = 48 - n := wrap_id (by omega) (by omega)
        have g3 : IntKind.u8.wrap (48 - n) = 48 - n := wrap8 (by omega) (by omega)
        repeat (first | (with_reducible (first | apply wA | apply wB | apply wC | apply wD | apply wE | apply wF | apply wG | apply wH | apply wI | apply wJ | apply wK | apply wL | apply wM | apply wN | apply wO | apply wP | apply wQ rfl | apply wR | apply wS | apply wT | apply wU)) | ((with_reducible (first | apply wV | apply wW | apply wX | (apply wY [] hTT cf0_ok noM_ok mixed; (focus kernel_rfl)))); (focus (simp only [Tryz.f159, h0, g1, g2, g3, gt_iff_lt, go_sem]; with_reducible rfl))) | (with_reducible refine wZ hTT cf0_ok noM_ok ?_) | (with_reducible refine wa ?_; refine And.intro ?_ ?_; (focus kernel_rfl)))
        exact ⟨rfl, rfl, _, rfl, rfl⟩
      · rw [itoa_b (by omega) (by omega)]
        have e1 := tdv_neg (n := n) (by omega)
        have e2 := tmd_neg (n := n) (by omega)
        have hc := ih (n.tdiv 10) (by rw [e1]; omega) (by omega)
        have hl := hl10 (n.tdiv 10) (by rw [e1]; omega)
        have w1 : IntKind.i64.wrap (n.tdiv 10) = n.tdiv 10 := wrap_id (by omega) (by omega)
        have g2 : IntKind.i64.wrap (48 - n.tmod 10) = 48 - n.tmod 10 := wrap_id (by omega) (by omega)
        have g3 : IntKind.u8.wrap (48 - n.tmod 10) = 48 - n.tmod 10 := wrap8 (by omega) (by omega)
        clear e1 e2
        have hltb : ltBL 0 [ii (n.tdiv 10)] = true := rfl
        repeat (first | (with_reducible (first | apply wA | apply wB | apply wC | apply wD | apply wE | apply wF | apply wG | apply wH | apply wI | apply wJ | apply wK | apply wL | apply wM | apply wN | apply wO | apply wP | apply wQ rfl | apply wR | apply wS | apply wT | apply wU)) | ((with_reducible (first | apply wV | apply wW | apply wX | (apply wY [] hTT (cfAt_ok cf0_ok (ent Tryz.func159 rfl) hc hltb) noM_ok mixed; (focus kernel_rfl)))); (focus (simp only [Tryz.f159, cfAt, h0, g1, g2, g3, w1, hl, gt_iff_lt, go_sem]; with_reducible rfl))) | (with_reducible refine wZ hTT (cfAt_ok cf0_ok (ent Tryz.func159 rfl) hc hltb) noM_ok ?_) | (with_reducible refine wa ?_; refine And.intro ?_ ?_; (focus kernel_rfl)))
        exact ⟨rfl, rfl, _, rfl, rfl⟩
    · have g1 : (-10 : Int) < n := by omega
      by_cases g4 : n < 10
      · rw [itoa_c (by omega) (by omega)]
        have g2 : IntKind.i64.wrap (48 + n) = 48 + n := wrap_id (by omega) (by omega)
        have g3 : IntKind.u8.wrap (48 + n) = 48 + n := wrap8 (by omega) (by omega)
        repeat (first | (with_reducible (first | apply wA | apply wB | apply wC | apply wD | apply wE | apply wF | apply wG | apply wH | apply wI | apply wJ | apply wK | apply wL | apply wM | apply wN | apply wO | apply wP | apply wQ rfl | apply wR | apply wS | apply wT | apply wU)) | ((with_reducible (first | apply wV | apply wW | apply wX | (apply wY [] hTT cf0_ok noM_ok mixed; (focus kernel_rfl)))); (focus (simp only [Tryz.f159, h0, g1, g2, g3, g4, gt_iff_lt, go_sem]; with_reducible rfl))) | (with_reducible refine wZ hTT cf0_ok noM_ok ?_) | (with_reducible refine wa ?_; refine And.intro ?_ ?_; (focus kernel_rfl)))
        exact ⟨rfl, rfl, _, rfl, rfl⟩
      · rw [itoa_d (by omega) (by omega)]
        have e1 := tdv_pos (n := n) (by omega)
        have e2 := tmd_pos (n := n) (by omega)
        have hc := ih (n.tdiv 10) (by rw [e1]; omega) (by omega)
        have hl := hl10 (n.tdiv 10) (by rw [e1]; omega)
        have w1 : IntKind.i64.wrap (n.tdiv 10) = n.tdiv 10 := wrap_id (by omega) (by omega)
        have g2 : IntKind.i64.wrap (48 + n.tmod 10) = 48 + n.tmod 10 := wrap_id (by omega) (by omega)
        have g3 : IntKind.u8.wrap (48 + n.tmod 10) = 48 + n.tmod 10 := wrap8 (by omega) (by omega)
        clear e1 e2
        have hltb : ltBL 0 [ii (n.tdiv 10)] = true := rfl
        repeat (first | (with_reducible (first | apply wA | apply wB | apply wC | apply wD | apply wE | apply wF | apply wG | apply wH | apply wI | apply wJ | apply wK | apply wL | apply wM | apply wN | apply wO | apply wP | apply wQ rfl | apply wR | apply wS | apply wT | apply wU)) | ((with_reducible (first | apply wV | apply wW | apply wX | (apply wY [] hTT (cfAt_ok cf0_ok (ent Tryz.func159 rfl) hc hltb) noM_ok mixed; (focus kernel_rfl)))); (focus (simp only [Tryz.f159, cfAt, h0, g1, g2, g3, g4, w1, hl, gt_iff_lt, go_sem]; with_reducible rfl))) | (with_reducible refine wZ hTT (cfAt_ok cf0_ok (ent Tryz.func159 rfl) hc hltb) noM_ok ?_) | (with_reducible refine wa ?_; refine And.intro ?_ ?_; (focus kernel_rfl)))
        exact ⟨rfl, rfl, _, rfl, rfl⟩
def c159 : List PV → List Box → Option (PRes × List Box)
  | [.int .i64 n], sg => if n.natAbs < 1000000 then some (.ret (.str (itoaF n)), sg) else none
  | _, _ => none
theorem c159_ok : ConOk Tryz.prog 159 c159 := ConOk.of0 (ent Tryz.func159 rfl) fun args sg r sg' h => by
  unfold c159 at h
  split at h <;> try (cases h; done)
  split at h <;> cases h
  rename_i hc
  exact ⟨_, rfl, rfl, rfl, Decimal_159 5 _ hc (Nat.le_refl _)⟩
def rowF (w : List UInt8) (ns : List Int) : List UInt8 := ns.foldl (fun a n => a ++ 32 :: itoaF n) w
def cfNa : CallF := cfAdd cf0 159 c159
theorem cfNa_ok : CallFOk Tryz.prog cfNa := cfAdd_ok cf0_ok c159_ok
theorem Row_124 (w : List UInt8) (z : Z) (ns : List Int) (hz : z = .n → ns = []) (hn : ns.length ≤ 100000) (hw : w.length ≤ 100000) (hb : ∀ n ∈ ns, n.natAbs < 1000000) : CallOk Tryz.prog 124 [.str w, .sl z (ns.map ii)] [] (.ret (.str (rowF w ns))) [] := by
  refine CallOk.of0 hTT Tryz.func124 rfl rfl ?_
  repeat (first | (with_reducible (first | apply wA | apply wB | apply wC | apply wD | apply wE | apply wF | apply wG | apply wH | apply wI | apply wJ | apply wK | apply wL | apply wM | apply wN | apply wO | apply wP | apply wQ rfl | apply wR | apply wS | apply wT | apply wU)) | ((with_reducible (first | apply wV | apply wW | apply wX | (apply wY [] hTT cfNa_ok noM_ok mixed; (focus kernel_rfl)))); (focus (simp only [Tryz.f124, go_sem]; with_reducible rfl))) | (with_reducible refine wZ hTT cfNa_ok noM_ok ?_) | (with_reducible refine wa ?_; refine And.intro ?_ ?_; (focus kernel_rfl)))
  refine RunQ.keep [5, 4, 0, 1] (by simp only [go_sem]; rfl) ?_
  refine RunQ.loop (fun i s' => ∃ a : List UInt8, rowF w ns = rowF a (ns.drop i) ∧ a.length ≤ w.length + 8 * i ∧ s' = ⟨[(5, ii i), (4, .str []), (0, .str a), (1, .sl z (ns.map ii))], 21, []⟩) ns.length ⟨w, rfl, Nat.le_add_right _ _, rfl⟩ ?_
  rintro i _ hi ⟨a, hm, hal, rfl⟩
  by_cases hlt : i < ns.length
  · obtain ⟨x, hx⟩ : ∃ x, ns[i]? = some x := ⟨_, List.getElem?_eq_getElem hlt⟩
    have hx' : (ns.map ii)[i]? = some (ii x) := map_get hx
    have hlt' : (i : Int) < ns.length := by omega
    have hz' : z ≠ .n := fun e => by rw [hz e] at hlt; simp at hlt
    have e4 : IntKind.i64.wrap ((i : Int) + 1) = ((i + 1 : Nat) : Int) := wrap_id (by omega) (by omega)
    have hbx := hb x (List.mem_of_getElem? hx)
    have hlx := itoa_len 5 x hbx (Nat.le_refl _)
    have l1 : a.length + 1 ≤ maxLen := by unfold maxLen; omega
    have l2 : a.length + 1 + (itoaF x).length ≤ maxLen := by unfold maxLen; omega
    rw [drop_get hx] at hm
    have hm : rowF w ns = rowF (a ++ 32 :: itoaF x) (ns.drop (i + 1)) := hm
    repeat (first | (with_reducible (first | apply wA | apply wB | apply wC | apply wD | apply wE | apply wF | apply wG | apply wH | apply wI | apply wJ | apply wK | apply wL | apply wM | apply wN | apply wO | apply wP | apply wQ rfl | apply wR | apply wS | apply wT | apply wU)) | ((with_reducible (first | apply wV | apply wW | apply wX | (apply wY [] hTT cfNa_ok noM_ok mixed; (focus kernel_rfl)))); (focus (simp only [Tryz.f124, cfNa, c159, hx', hlt', hz', e4, hbx, l1, l2, go_sem]; with_reducible rfl))) | (with_reducible refine wZ hTT cfNa_ok noM_ok ?_) | (with_reducible refine wa ?_; refine And.intro ?_ ?_; (focus kernel_rfl)))
    refine roundQ.t 0 [5, 4, 0, 1] hlt (by simp only [ltB_is, go_sem]) ⟨_, hm, by simp only [List.length_append, List.length_cons]; omega, by simp only [go_sem]⟩
  · have hlt' : ¬ (i : Int) < ns.length := by omega
    rw [List.drop_eq_nil_of_le (by omega)] at hm
    have hm : rowF w ns = a := hm
    rw [hm]
    repeat (first | (with_reducible (first | apply wA | apply wB | apply wC | apply wD | apply wE | apply wF | apply wG | apply wH | apply wI | apply wJ | apply wK | apply wL | apply wM | apply wN | apply wO | apply wP | apply wQ rfl | apply wR | apply wS | apply wT | apply wU)) | ((with_reducible (first | apply wV | apply wW | apply wX | (apply wY [] hTT cfNa_ok noM_ok mixed; (focus kernel_rfl)))); (focus (simp only [Tryz.f124, hlt', go_sem]; with_reducible rfl))) | (with_reducible refine wZ hTT cfNa_ok noM_ok ?_) | (with_reducible refine wa ?_; refine And.intro ?_ ?_; (focus kernel_rfl)))
    exact ⟨rfl, rfl, _, rfl, rfl⟩
theorem row_len (ns : List Int) (hb : ∀ n ∈ ns, n.natAbs < 1000000) : ∀ w : List UInt8, (rowF w ns).length ≤ w.length + 8 * ns.length := by
  induction ns with
  | nil => intro w; exact Nat.le_refl _
  | cons n ns ih =>
    intro w
    have h1 := ih (fun m hm => hb m (List.mem_cons_of_mem _ hm)) (w ++ 32 :: itoaF n)
    have h2 := itoa_len 5 n (hb n (List.mem_cons_self ..)) (Nat.le_refl _)
    show (rowF (w ++ 32 :: itoaF n) ns).length ≤ _
    rw [List.length_append, List.length_cons] at h1
    rw [List.length_cons]
    omega
def c124 : List PV → List Box → Option (PRes × List Box)
  | [.str w, v], sg => match decIs1 v with
    | some ns => if ns.length ≤ 100000 ∧ w.length ≤ 100000 ∧ (ns.all fun n => decide (n.natAbs < 1000000)) = true then some (.ret (.str (rowF w ns)), sg) else none
    | none => none
  | _, _ => none
theorem c124_ok : ConOk Tryz.prog 124 c124 := ConOk.of0 (ent Tryz.func124 rfl) fun args sg r sg' h => by
  unfold c124 at h
  split at h <;> try (cases h; done)
  split at h <;> try (cases h; done)
  rename_i h1
  split at h <;> cases h
  rename_i hc
  obtain ⟨z, rfl, hz⟩ := decIs1_inv h1
  exact ⟨_, rfl, rfl, by rw [ltBL_cons, ltBL_cons, ltB_isl]; rfl, Row_124 _ _ _ hz hc.1 hc.2.1 (fun n hn => by simpa using List.all_eq_true.1 hc.2.2 n hn)⟩
end Go.Pv
namespace Go.Pv
open Go Go.RowKit Go.Proofs
set_option maxRecDepth 200000
set_option maxHeartbeats 8000000
/-- The weights of a row's bytes from one on. -/
def sumR (m : Nat) : Nat → List UInt8 → Nat
  | _, [] => 0
  | k, b :: r => b.toNat * (k + 1) * m + sumR m (k + 1) r
/-- The weights of all rows from one on. -/
def sumS : Nat → List (List UInt8) → Nat
  | _, [] => 0
  | i, r :: R => sumR (i + 1) 0 r + sumS (i + 1) R
def digF (d : Nat) : List UInt8 := itoaF ((d / 100 : Nat) : Int) ++ (itoaF ((d / 10 % 10 : Nat) : Int) ++ itoaF ((d % 10 : Nat) : Int))
def linesF (R : List (List UInt8)) : List UInt8 := R.flatMap fun r => r ++ [10]
def sealF (R : List (List UInt8)) : List UInt8 := linesF R ++ (101 :: 110 :: 100 :: 32 :: (digF (sumS 0 R % 179) ++ [10]))
theorem closedL_strs (R : List (List UInt8)) : closedL (R.map PV.str) = true := closedL_map (fun _ => rfl) R
theorem ltB_strs (m : Nat) (R : List (List UInt8)) : ltBL m (R.map PV.str) = true := ltBL_of_closed m _ (closedL_strs R)
theorem Sealed_125 (z : Z) (R : List (List UInt8)) (hz : z = .n → R = []) (hn : R.length ≤ 1000) (hl : ∀ r ∈ R, r.length ≤ 1000) : CallOk Tryz.prog 125 [.sl z (R.map PV.str), ii 179] [] (.ret (.str (sealF R))) [] := by
  refine CallOk.of0 hTT Tryz.func125 rfl rfl ?_
  repeat (first | (with_reducible (first | apply wA | apply wB | apply wC | apply wD | apply wE | apply wF | apply wG | apply wH | apply wI | apply wJ | apply wK | apply wL | apply wM | apply wN | apply wO | apply wP | apply wQ rfl | apply wR | apply wS | apply wT | apply wU)) | ((with_reducible (first | apply wV | apply wW | apply wX | (apply wY [] hTT cfNa_ok noM_ok mixed; (focus kernel_rfl)))); (focus (simp only [Tryz.f125, go_sem]; with_reducible rfl))) | (with_reducible refine wZ hTT cfNa_ok noM_ok ?_) | (with_reducible refine wa ?_; refine And.intro ?_ ?_; (focus kernel_rfl)))
  refine RunQ.keep [7, 6, 5, 4, 0, 1] (by simp only [go_sem]; rfl) ?_
  refine RunQ.loop (fun i s' => ∃ (c : Nat) (o : List UInt8), sumS 0 R = c + sumS i (R.drop i) ∧ linesF R = o ++ linesF (R.drop i) ∧ o.length ≤ 1001 * i ∧ c ≤ 255000000000 * i ∧ s' = ⟨[(7, ii i), (6, ii c), (5, .str o), (4, .str []), (0, .sl z (R.map PV.str)), (1, ii 179)], 65, []⟩) R.length ⟨0, [], (Nat.zero_add _).symm, rfl, Nat.zero_le _, Nat.zero_le _, rfl⟩ ?_
  rintro i _ hi ⟨c, o, hc, ho, hol, hcl, rfl⟩
  by_cases hlt : i < R.length
  · obtain ⟨r, hr⟩ : ∃ r, R[i]? = some r := ⟨_, List.getElem?_eq_getElem hlt⟩
    have hr' : (R.map PV.str)[i]? = some (.str r) := by rw [List.getElem?_map, hr]; rfl
    have hlt' : (i : Int) < R.length := by omega
    have hz' : z ≠ .n := fun e => by rw [hz e] at hlt; simp at hlt
    have e4 : IntKind.i64.wrap ((i : Int) + 1) = ((i + 1 : Nat) : Int) := wrap_id (by omega) (by omega)
    have hrl := hl r (List.mem_of_getElem? hr)
    have l1 : o.length + r.length ≤ maxLen := by unfold maxLen; omega
    have l2 : o.length + r.length + 1 ≤ maxLen := by unfold maxLen; omega
    rw [drop_get hr] at hc ho
    have hc : sumS 0 R = c + (sumR (i + 1) 0 r + sumS (i + 1) (R.drop (i + 1))) := hc
    have ho : linesF R = o ++ (r ++ [10] ++ linesF (R.drop (i + 1))) := ho
    repeat (first | (with_reducible (first | apply wA | ((fail_if_success (refine RunQ.seq (x := .region 6 _ _) ?_)); (apply wB)) | apply wC | apply wD | apply wE | apply wF | apply wG | apply wH | apply wI | apply wJ | apply wK | apply wL | apply wM | apply wN | apply wO | apply wP | apply wQ rfl | apply wR | apply wS | apply wT | apply wU)) | ((with_reducible (first | apply wV | apply wW | apply wX | (apply wY [] hTT cfNa_ok noM_ok mixed; (focus kernel_rfl)))); (focus (simp only [Tryz.f125, hlt', hr', hz', go_sem]; with_reducible rfl))) | ((fail_if_success (with_reducible show RunQ _ (.region 6 _ _) _ _)); (with_reducible refine wZ hTT cfNa_ok noM_ok ?_)) | (with_reducible refine wa ?_; refine And.intro ?_ ?_; (focus kernel_rfl)))
    refine RunQ.keep [8, 7, 6, 5, 4, 0, 1] (by simp only [go_sem]; rfl) ?_
    refine RunQ.loop (fun k s' => ∃ d : Nat, d + sumR (i + 1) k (r.drop k) = c + sumR (i + 1) 0 r ∧ d ≤ c + 255000000 * k ∧ s' = ⟨[(8, ii k), (7, ii i), (6, ii d), (5, .str o), (4, .str []), (0, .sl z (R.map PV.str)), (1, ii 179)], 65, []⟩) r.length ⟨c, rfl, Nat.le_add_right _ _, rfl⟩ ?_
    rintro k _ hk ⟨d, hd, hdl, rfl⟩
    by_cases hkl : k < r.length
    · obtain ⟨x, hx⟩ : ∃ x, r[k]? = some x := ⟨_, List.getElem?_eq_getElem hkl⟩
      have hkl' : (k : Int) < r.length := by omega
      have hx255 : x.toNat < 256 := x.toNat_lt
      have e5 : IntKind.i64.wrap ((k : Int) + 1) = ((k + 1 : Nat) : Int) := wrap_id (by omega) (by omega)
      have e6 : IntKind.i64.wrap ((x.toNat : Nat) : Int) = ((x.toNat : Nat) : Int) := wrap_id (by omega) (by omega)
      have b1 : x.toNat * (k + 1) ≤ 255 * 1000 := Nat.mul_le_mul (by omega) (by omega)
      have b2 : x.toNat * (k + 1) * (i + 1) ≤ 255 * 1000 * 1000 := Nat.mul_le_mul b1 (by omega)
      have m1 : ((x.toNat : Nat) : Int) * ((k + 1 : Nat) : Int) = ((x.toNat * (k + 1) : Nat) : Int) := by rw [Int.natCast_mul]
      have m2 : ((x.toNat * (k + 1) : Nat) : Int) * ((i + 1 : Nat) : Int) = ((x.toNat * (k + 1) * (i + 1) : Nat) : Int) := by rw [Int.natCast_mul (x.toNat * (k + 1))]
      have hs : sumR (i + 1) k (r.drop k) = x.toNat * (k + 1) * (i + 1) + sumR (i + 1) (k + 1) (r.drop (k + 1)) := by rw [drop_get hx]; rfl
      rw [hs] at hd
      generalize x.toNat * (k + 1) * (i + 1) = p2 at b2 m2 hd
      generalize x.toNat * (k + 1) = p1 at b1 m1 m2
      have e7 : IntKind.i64.wrap (((x.toNat : Nat) : Int) * ((k + 1 : Nat) : Int)) = (p1 : Nat) := by rw [m1]; exact wrap_id (by omega) (by omega)
      have e8 : IntKind.i64.wrap ((p1 : Int) * ((i + 1 : Nat) : Int)) = (p2 : Nat) := by rw [m2]; exact wrap_id (by omega) (by omega)
      have e9 : IntKind.i64.wrap ((d : Int) + (p2 : Int)) = ((d + p2 : Nat) : Int) := wrap_id (by omega) (by omega)
      repeat (first | (with_reducible (first | apply wA | apply wB | apply wC | apply wD | apply wE | apply wF | apply wG | apply wH | apply wI | apply wJ | apply wK | apply wL | apply wM | apply wN | apply wO | apply wP | apply wQ rfl | apply wR | apply wS | apply wT | apply wU)) | ((with_reducible (first | apply wV | apply wW | apply wX | (apply wY [] hTT cfNa_ok noM_ok mixed; (focus kernel_rfl)))); (focus (simp only [Tryz.f125, hr', hz', hkl', hx, e4, e5, e6, e7, e8, e9, go_sem]; with_reducible rfl))) | (with_reducible refine wZ hTT cfNa_ok noM_ok ?_) | (with_reducible refine wa ?_; refine And.intro ?_ ?_; (focus kernel_rfl)))
      refine roundQ.t 0 [8, 7, 6, 5, 4, 0, 1] hkl (by simp only [ltB_strs, go_sem]) ⟨d + p2, by omega, by omega, by simp only [go_sem]⟩
    · have hkl' : ¬ (k : Int) < r.length := by omega
      rw [List.drop_eq_nil_of_le (by omega)] at hd
      have hd : d = c + sumR (i + 1) 0 r := hd
      repeat (first | (with_reducible (first | apply wA | apply wB | apply wC | apply wD | apply wE | apply wF | apply wG | apply wH | apply wI | apply wJ | apply wK | apply wL | apply wM | apply wN | apply wO | apply wP | apply wQ rfl | apply wR | apply wS | apply wT | apply wU)) | ((with_reducible (first | apply wV | apply wW | apply wX | (apply wY [] hTT cfNa_ok noM_ok mixed; (focus kernel_rfl)))); (focus (simp only [Tryz.f125, hr', hz', hkl', e4, l1, l2, go_sem]; with_reducible rfl))) | (with_reducible refine wZ hTT cfNa_ok noM_ok ?_) | (with_reducible refine wa ?_; refine And.intro ?_ ?_; (focus kernel_rfl)))
      refine roundQ.t 0 [7, 6, 5, 4, 0, 1] hlt (by simp only [ltB_strs, go_sem]) ⟨d, o ++ (r ++ [10]), by omega, by rw [ho]; simp only [List.append_assoc], by simp only [List.length_append, List.length_cons, List.length_nil]; omega, by omega, by simp only [go_sem]⟩
  · have hlt' : ¬ (i : Int) < R.length := by omega
    obtain rfl : i = R.length := by omega
    rw [List.drop_length] at hc ho
    have hc : sumS 0 R = c := hc
    have ho : linesF R = o := by rw [ho]; exact List.append_nil _
    unfold sealF
    rw [hc, ho]
    have hd : c % 179 < 179 := Nat.mod_lt _ (by decide)
    have t1 : ((c : Nat) : Int).tmod 179 = ((c % 179 : Nat) : Int) := by rw [Int.tmod_eq_emod_of_nonneg (by omega)]; omega
    generalize c % 179 = d at hd t1
    have t2 : IntKind.i64.wrap (((d : Nat) : Int).tdiv 100) = ((d / 100 : Nat) : Int) := by rw [Int.tdiv_eq_ediv_of_nonneg (by omega)]; exact (wrap_id (by omega) (by omega)).trans (by omega)
    have t3 : IntKind.i64.wrap (((d : Nat) : Int).tdiv 10) = ((d / 10 : Nat) : Int) := by rw [Int.tdiv_eq_ediv_of_nonneg (by omega)]; exact (wrap_id (by omega) (by omega)).trans (by omega)
    have t4 : ((d / 10 : Nat) : Int).tmod 10 = ((d / 10 % 10 : Nat) : Int) := by rw [Int.tmod_eq_emod_of_nonneg (by omega)]; omega
    have t5 : ((d : Nat) : Int).tmod 10 = ((d % 10 : Nat) : Int) := by rw [Int.tmod_eq_emod_of_nonneg (by omega)]; omega
    have n1 : (((d / 100 : Nat) : Int)).natAbs < 1000000 := by omega
    have n2 : (((d / 10 % 10 : Nat) : Int)).natAbs < 1000000 := by omega
    have n3 : (((d % 10 : Nat) : Int)).natAbs < 1000000 := by omega
    have h179 : ¬ (179 : Int) = 0 := by decide
    have h100 : ¬ (100 : Int) = 0 := by decide
    have h10 : ¬ (10 : Int) = 0 := by decide
    have q1 := itoa_len 5 _ n1 (Nat.le_refl _)
    have q2 := itoa_len 5 _ n2 (Nat.le_refl _)
    have q3 := itoa_len 5 _ n3 (Nat.le_refl _)
    unfold digF
    generalize ((d / 100 : Nat) : Int) = A at *
    generalize ((d / 10 % 10 : Nat) : Int) = B at *
    generalize ((d % 10 : Nat) : Int) = C at *
    have l1 : o.length + 4 ≤ maxLen := by unfold maxLen; omega
    have l2 : o.length + 4 + (itoaF A).length ≤ maxLen := by unfold maxLen; omega
    have l3 : o.length + ((itoaF A).length + 1 + 1 + 1 + 1) + (itoaF B).length ≤ maxLen := by unfold maxLen; omega
    have l4 : o.length + ((itoaF A).length + (itoaF B).length + 1 + 1 + 1 + 1) + (itoaF C).length ≤ maxLen := by unfold maxLen; omega
    have l5 : o.length + ((itoaF A).length + ((itoaF B).length + (itoaF C).length) + 1 + 1 + 1 + 1) + 1 ≤ maxLen := by unfold maxLen; omega
    repeat (first | (with_reducible (first | apply wA | apply wB | apply wC | apply wD | apply wE | apply wF | apply wG | apply wH | apply wI | apply wJ | apply wK | apply wL | apply wM | apply wN | apply wO | apply wP | apply wQ rfl | apply wR | apply wS | apply wT | apply wU)) | ((with_reducible (first | apply wV | apply wW | apply wX | (apply wY [] hTT cfNa_ok noM_ok mixed; (focus kernel_rfl)))); (focus (simp only [Tryz.f125, cfNa, c159, hlt', t1, t2, t3, t4, t5, n1, n2, n3, h179, h100, h10, l1, l2, l3, l4, l5, go_sem]; with_reducible rfl))) | (with_reducible refine wZ hTT cfNa_ok noM_ok ?_) | (with_reducible refine wa ?_; refine And.intro ?_ ?_; (focus kernel_rfl)))
    refine ⟨rfl, rfl, _, rfl, ?_⟩
    simp only [List.append_assoc]
    rfl
def c125 : List PV → List Box → Option (PRes × List Box)
  | [.sl z es, .int .i64 n], sg => match decL decS es with
    | some R => if (z = .n → R = []) ∧ n = 179 ∧ R.length ≤ 1000 ∧ (R.all fun r => decide (r.length ≤ 1000)) = true then some (.ret (.str (sealF R)), sg) else none
    | none => none
  | _, _ => none
theorem c125_ok : ConOk Tryz.prog 125 c125 := ConOk.of0 (ent Tryz.func125 rfl) fun args sg r sg' h => by
  unfold c125 at h
  split at h <;> try (cases h; done)
  split at h <;> try (cases h; done)
  rename_i h1
  split at h <;> cases h
  rename_i hc
  obtain rfl := decL_inv decS_inv h1
  obtain ⟨h2, rfl, h3, h4⟩ := hc
  exact ⟨_, rfl, rfl, by rw [ltBL_cons, ltB_sl, ltB_strs]; rfl, Sealed_125 _ _ h2 h3 (fun r hr => by simpa using List.all_eq_true.1 h4 r hr)⟩
theorem decSs_map (R : List (List UInt8)) : decL decS (R.map PV.str) = some R := decL_map (g := PV.str) (fun _ => rfl) R
end Go.Pv
