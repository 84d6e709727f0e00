/- Contracts: how places are compared: the function that sorts them is given. -/
import Derived.Test.YtmnocohggpmjcaaGreatDoorQgEnds
import Derived.Test.YtmnocohggpmjcaaGreatDoorQwOrd
import Derived.Test.YtmnocohggpmjcaaGreatDoorQdWalk
set_option linter.all false
namespace Go.Pv
open Go Go.RowKit Go.Proofs
set_option maxRecDepth 10000
set_option maxHeartbeats 4000000
theorem isNaN_187 (x : Int) : CallOk Tryz.prog 187 [ii x] [] (.ret (.bool false)) [] := by
  refine CallOk.of0 hTT Tryz.func187 rfl rfl ?_
  have h1 : (x != x) = false := bne_self_eq_false x
  repeat (first | (with_reducible (first | apply wA | apply wB | apply wC | apply wD | apply wE | apply wF | apply wG | apply wH | apply wI | apply wJ | apply wK | apply wL | apply wM | apply wN | apply wO | apply wP | apply wQ rfl | apply wR | apply wS | apply wT | apply wU)) | ((with_reducible (first | apply wV | apply wW | apply wX | (apply wY [] hTT cf0_ok noM_ok mixed; (focus kernel_rfl)))); (focus (simp only [Tryz.f187, h1, go_sem]; with_reducible rfl))) | (with_reducible refine wZ hTT cf0_ok noM_ok ?_) | (with_reducible refine wa ?_; refine And.intro ?_ ?_; (focus kernel_rfl)))
  exact ⟨rfl, rfl, _, rfl, rfl⟩
def c187 : List PV → List Box → Option (PRes × List Box)
  | [.int .i64 _], sg => some (.ret (.bool false), sg)
  | _, _ => none
theorem c187_ok : ConOk Tryz.prog 187 c187 := ConOk.of0 (ent Tryz.func187 rfl) fun args sg r sg' h => by
  unfold c187 at h
  split at h <;> cases h
  exact ⟨_, rfl, rfl, rfl, isNaN_187 _⟩
def cfO1 : CallF := cfAdd cf0 187 c187
theorem cfO1_ok : CallFOk Tryz.prog cfO1 := cfAdd_ok cf0_ok c187_ok
theorem cmp_165 (x y : Int) : CallOk Tryz.prog 165 [ii x, ii y] [] (.ret (ii (cmpI x y))) [] := by
  refine CallOk.of0 hTT Tryz.func165 rfl rfl ?_
  unfold cmpI
  by_cases h1 : x < y
  · rw [if_pos h1]
    repeat (first | (with_reducible (first | apply wA | apply wB | apply wC | apply wD | apply wE | apply wF | apply wG | apply wH | apply wI | apply wJ | apply wK | apply wL | apply wM | apply wN | apply wO | apply wP | apply wQ rfl | apply wR | apply wS | apply wT | apply wU)) | ((with_reducible (first | apply wV | apply wW | apply wX | (apply wY [] hTT cfO1_ok noM_ok mixed; (focus kernel_rfl)))); (focus (simp only [Tryz.f165, cfO1, c187, h1, go_sem]; with_reducible rfl))) | (with_reducible refine wZ hTT cfO1_ok noM_ok ?_) | (with_reducible refine wa ?_; refine And.intro ?_ ?_; (focus kernel_rfl)))
    exact ⟨rfl, rfl, _, rfl, rfl⟩
  · rw [if_neg h1]
    by_cases h2 : y < x
    · rw [if_pos h2]
      repeat (first | (with_reducible (first | apply wA | apply wB | apply wC | apply wD | apply wE | apply wF | apply wG | apply wH | apply wI | apply wJ | apply wK | apply wL | apply wM | apply wN | apply wO | apply wP | apply wQ rfl | apply wR | apply wS | apply wT | apply wU)) | ((with_reducible (first | apply wV | apply wW | apply wX | (apply wY [] hTT cfO1_ok noM_ok mixed; (focus kernel_rfl)))); (focus (simp only [Tryz.f165, cfO1, c187, h1, h2, gt_iff_lt, go_sem]; with_reducible rfl))) | (with_reducible refine wZ hTT cfO1_ok noM_ok ?_) | (with_reducible refine wa ?_; refine And.intro ?_ ?_; (focus kernel_rfl)))
      exact ⟨rfl, rfl, _, rfl, rfl⟩
    · rw [if_neg h2]
      repeat (first | (with_reducible (first | apply wA | apply wB | apply wC | apply wD | apply wE | apply wF | apply wG | apply wH | apply wI | apply wJ | apply wK | apply wL | apply wM | apply wN | apply wO | apply wP | apply wQ rfl | apply wR | apply wS | apply wT | apply wU)) | ((with_reducible (first | apply wV | apply wW | apply wX | (apply wY [] hTT cfO1_ok noM_ok mixed; (focus kernel_rfl)))); (focus (simp only [Tryz.f165, cfO1, c187, h1, h2, gt_iff_lt, go_sem]; with_reducible rfl))) | (with_reducible refine wZ hTT cfO1_ok noM_ok ?_) | (with_reducible refine wa ?_; refine And.intro ?_ ?_; (focus kernel_rfl)))
      exact ⟨rfl, rfl, _, rfl, rfl⟩
def c165 : List PV → List Box → Option (PRes × List Box)
  | [.int .i64 x, .int .i64 y], sg => some (.ret (ii (cmpI x y)), sg)
  | _, _ => none
theorem c165_ok : ConOk Tryz.prog 165 c165 := ConOk.of0 (ent Tryz.func165 rfl) fun args sg r sg' h => by
  unfold c165 at h
  split at h <;> cases h
  exact ⟨_, rfl, rfl, rfl, cmp_165 _ _⟩
def cfO2 : CallF := cfAdd cf0 165 c165
theorem cfO2_ok : CallFOk Tryz.prog cfO2 := cfAdd_ok cf0_ok c165_ok
def cmpL (a b c d : Int) : Int := if a < c then -1 else if c < a then 1 else cmpI b d
theorem cmpI_ne {a b : Int} (h : a ≠ b) : (cmpI a b != 0) = true := by
  unfold cmpI
  split
  · rfl
  · split
    · rfl
    · omega
theorem cmpI_eq (a : Int) : cmpI a a = 0 := by simp [cmpI]
theorem Compare_135 (a b c d : Int) : CallOk Tryz.prog 135 [.sl .f [ii a, ii b], .sl .f [ii c, ii d]] [] (.ret (ii (cmpL a b c d))) [] := by
  refine CallOk.of0 hTT Tryz.func135 rfl rfl ?_
  have b00 : ((0 : Int) != 0) = false := rfl
  have h02 : ¬ (2 : Int) ≤ 0 := by omega
  have h12 : ¬ (2 : Int) ≤ 1 := by omega
  have l22 : ¬ (2 : Int) < 2 := by omega
  have n0 : ((0 : Nat) : Int) = 0 := rfl
  have n1 : ((1 : Nat) : Int) = 1 := rfl
  have n2 : ((2 : Nat) : Int) = 2 := rfl
  have w1 : IntKind.i64.wrap (0 + 1) = 1 := rfl
  have w2 : IntKind.i64.wrap (1 + 1) = 2 := rfl
  have w3 : IntKind.i64.wrap 1 = 1 := rfl
  have w4 : IntKind.i64.wrap 2 = 2 := rfl
  repeat (first | (with_reducible (first | apply wA | apply wB | apply wC | apply wD | apply wE | apply wF | apply wG | apply wH | apply wI | apply wJ | apply wK | apply wL | apply wM | apply wN | apply wO | apply wP | apply wQ rfl | apply wR | apply wS | apply wT | apply wU)) | ((with_reducible (first | apply wV | apply wW | apply wX | (apply wY [] hTT cfO2_ok noM_ok mixed; (focus kernel_rfl)))); (focus (simp only [Tryz.f135, go_sem]; with_reducible rfl))) | (with_reducible refine wZ hTT cfO2_ok noM_ok ?_) | (with_reducible refine wa ?_; refine And.intro ?_ ?_; (focus kernel_rfl)))
  refine RunQ.keep [11, 10, 9, 1, 0] (by simp only [go_sem]; rfl) ?_
  refine RunQ.loop (fun i s' => (1 ≤ i → a = c) ∧ (2 ≤ i → b = d) ∧ s' = ⟨[(11, ii i), (10, ii 2), (9, .sl .f [ii a, ii b]), (0, .sl .f [ii a, ii b]), (1, .sl .f [ii c, ii d])], 36, []⟩) 2 ⟨fun h => absurd h (by omega), fun h => absurd h (by omega), rfl⟩ ?_
  rintro i _ hi ⟨h1, h2, rfl⟩
  match i, hi with
  | 0, _ =>
    by_cases hac : a = c
    · subst hac
      have e1 := cmpI_eq a
      repeat (first | (with_reducible (first | apply wA | apply wB | apply wC | apply wD | apply wE | apply wF | apply wG | apply wH | apply wI | apply wJ | apply wK | apply wL | apply wM | apply wN | apply wO | apply wP | apply wQ rfl | apply wR | apply wS | apply wT | apply wU)) | ((with_reducible (first | apply wV | apply wW | apply wX | (apply wY [] hTT cfO2_ok noM_ok mixed; (focus kernel_rfl)))); (focus (simp only [Tryz.f135, cfO2, c165, n0, n1, n2, h02, h12, ge_iff_le, w1, w2, w3, w4, e1, b00, go_sem]; with_reducible rfl))) | (with_reducible refine wZ hTT cfO2_ok noM_ok ?_) | (with_reducible refine wa ?_; refine And.intro ?_ ?_; (focus kernel_rfl)))
      refine roundQ.b (by omega) (Back.keep [11, 10, 9, 0, 1] rfl) ⟨fun _ => rfl, fun h => absurd h (by omega), rfl⟩
    · have e1 := cmpI_ne hac
      have e2 : cmpL a b c d = cmpI a c := by
        unfold cmpL cmpI
        split
        · rfl
        · split
          · rfl
          · omega
      rw [e2]
      repeat (first | (with_reducible (first | apply wA | apply wB | apply wC | apply wD | apply wE | apply wF | apply wG | apply wH | apply wI | apply wJ | apply wK | apply wL | apply wM | apply wN | apply wO | apply wP | apply wQ rfl | apply wR | apply wS | apply wT | apply wU)) | ((with_reducible (first | apply wV | apply wW | apply wX | (apply wY [] hTT cfO2_ok noM_ok mixed; (focus kernel_rfl)))); (focus (simp only [Tryz.f135, cfO2, c165, n0, n1, n2, h02, h12, ge_iff_le, w1, w2, w3, w4, e1, go_sem]; with_reducible rfl))) | (with_reducible refine wZ hTT cfO2_ok noM_ok ?_) | (with_reducible refine wa ?_; refine And.intro ?_ ?_; (focus kernel_rfl)))
      exact ⟨rfl, rfl, _, rfl, rfl⟩
  | 1, _ =>
    have hac := h1 (by omega)
    subst hac
    have e3 : cmpL a b a d = cmpI b d := by unfold cmpL; simp
    by_cases hbd : b = d
    · subst hbd
      have e1 := cmpI_eq b
      repeat (first | (with_reducible (first | apply wA | apply wB | apply wC | apply wD | apply wE | apply wF | apply wG | apply wH | apply wI | apply wJ | apply wK | apply wL | apply wM | apply wN | apply wO | apply wP | apply wQ rfl | apply wR | apply wS | apply wT | apply wU)) | ((with_reducible (first | apply wV | apply wW | apply wX | (apply wY [] hTT cfO2_ok noM_ok mixed; (focus kernel_rfl)))); (focus (simp only [Tryz.f135, cfO2, c165, n0, n1, n2, h02, h12, ge_iff_le, w1, w2, w3, w4, e1, b00, go_sem]; with_reducible rfl))) | (with_reducible refine wZ hTT cfO2_ok noM_ok ?_) | (with_reducible refine wa ?_; refine And.intro ?_ ?_; (focus kernel_rfl)))
      refine roundQ.b (by omega) (Back.keep [11, 10, 9, 0, 1] rfl) ⟨fun _ => rfl, fun _ => rfl, rfl⟩
    · have e1 := cmpI_ne hbd
      rw [e3]
      repeat (first | (with_reducible (first | apply wA | apply wB | apply wC | apply wD | apply wE | apply wF | apply wG | apply wH | apply wI | apply wJ | apply wK | apply wL | apply wM | apply wN | apply wO | apply wP | apply wQ rfl | apply wR | apply wS | apply wT | apply wU)) | ((with_reducible (first | apply wV | apply wW | apply wX | (apply wY [] hTT cfO2_ok noM_ok mixed; (focus kernel_rfl)))); (focus (simp only [Tryz.f135, cfO2, c165, n0, n1, n2, h02, h12, ge_iff_le, w1, w2, w3, w4, e1, go_sem]; with_reducible rfl))) | (with_reducible refine wZ hTT cfO2_ok noM_ok ?_) | (with_reducible refine wa ?_; refine And.intro ?_ ?_; (focus kernel_rfl)))
      exact ⟨rfl, rfl, _, rfl, rfl⟩
  | 2, _ =>
    have hac := h1 (by omega)
    have hbd := h2 (by omega)
    subst hac
    subst hbd
    have e3 : cmpL a b a b = 0 := by unfold cmpL; simp [cmpI]
    rw [e3]
    repeat (first | (with_reducible (first | apply wA | apply wB | apply wC | apply wD | apply wE | apply wF | apply wG | apply wH | apply wI | apply wJ | apply wK | apply wL | apply wM | apply wN | apply wO | apply wP | apply wQ rfl | apply wR | apply wS | apply wT | apply wU)) | ((with_reducible (first | apply wV | apply wW | apply wX | (apply wY [] hTT cfO2_ok noM_ok mixed; (focus kernel_rfl)))); (focus (simp only [Tryz.f135, n2, l22, go_sem]; with_reducible rfl))) | (with_reducible refine wZ hTT cfO2_ok noM_ok ?_) | (with_reducible refine wa ?_; refine And.intro ?_ ?_; (focus kernel_rfl)))
    exact ⟨rfl, rfl, _, rfl, rfl⟩
def c135 : List PV → List Box → Option (PRes × List Box)
  | [.sl .f [.int .i64 a, .int .i64 b], .sl .f [.int .i64 c, .int .i64 d]], sg => some (.ret (ii (cmpL a b c d)), sg)
  | _, _ => none
theorem c135_ok : ConOk Tryz.prog 135 c135 := ConOk.of0 (ent Tryz.func135 rfl) fun args sg r sg' h => by
  unfold c135 at h
  split at h <;> cases h
  exact ⟨_, rfl, rfl, rfl, Compare_135 _ _ _ _⟩
def cfO3 : CallF := cfAdd (cfAdd cf0 134 c134) 135 c135
theorem cfO3_ok : CallFOk Tryz.prog cfO3 := cfAdd_ok (cfAdd_ok cf0_ok c134_ok) c135_ok
theorem ordered_133 (a b : PP) : CallOk Tryz.prog 133 [a.pv, b.pv] [] (.ret (.int .i64 (cmpP a b))) [] := by
  obtain ⟨a, b', _, _⟩ := a
  obtain ⟨c, d, _, _⟩ := b
  refine CallOk.of0 hTT Tryz.func133 rfl rfl ?_
  show RunQ _ _ ⟨argT 0 [.agg [ii a, ii b'], .agg [ii c, ii d]], _, _⟩ _
  have e : cmpP ⟨a, b', by assumption, by assumption⟩ ⟨c, d, by assumption, by assumption⟩ = cmpL a b' c d := rfl
  rw [e]
  repeat (first | (with_reducible (first | apply wA | apply wB | apply wC | apply wD | apply wE | apply wF | apply wG | apply wH | apply wI | apply wJ | apply wK | apply wL | apply wM | apply wN | apply wO | apply wP | apply wQ rfl | apply wR | apply wS | apply wT | apply wU)) | ((with_reducible (first | apply wV | apply wW | apply wX | (apply wY [] hTT cfO3_ok noM_ok mixed; (focus kernel_rfl)))); (focus (simp only [Tryz.f133, cfO3, c134, c135, go_sem]; with_reducible rfl))) | (with_reducible refine wZ hTT cfO3_ok noM_ok ?_) | (with_reducible refine wa ?_; refine And.intro ?_ ?_; (focus kernel_rfl)))
  exact ⟨rfl, rfl, _, rfl, rfl⟩
end Go.Pv
