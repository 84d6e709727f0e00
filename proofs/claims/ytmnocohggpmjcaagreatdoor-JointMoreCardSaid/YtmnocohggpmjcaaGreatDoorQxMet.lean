/- Contracts: whether a list has a place. -/
import Derived.Test.YtmnocohggpmjcaaGreatDoorQfJoint
set_option linter.all false
namespace Go.Pv
open Go Go.RowKit Go.Proofs
set_option maxRecDepth 10000
set_option maxHeartbeats 4000000
theorem met_40 (z : Z) (L : List Pl) (p : Pl) (hz : z = .n → L = []) (hL : L.length ≤ 100000) : CallOk Tryz.prog 40 [.sl z (L.map encPl), .agg [ii p.1, ii p.2]] [] (.ret (.bool (decide (p ∈ L)))) [] := by
  refine CallOk.of0 hTT Tryz.func40 rfl rfl ?_
  repeat (first | (with_reducible (first | apply wA | apply wB | apply wC | apply wD | apply wE | apply wF | apply wG | apply wH | apply wI | apply wJ | apply wK | apply wL | apply wM | apply wN | apply wO | apply wP | apply wQ rfl | apply wR | apply wS | apply wT | apply wU)) | ((with_reducible (first | apply wV | apply wW | apply wX | (apply wY [] hTT cf0_ok noM_ok mixed; (focus kernel_rfl)))); (focus (simp only [Tryz.f40, go_sem]; with_reducible rfl))) | (with_reducible refine wZ hTT cf0_ok noM_ok ?_) | (with_reducible refine wa ?_; refine And.intro ?_ ?_; (focus kernel_rfl)))
  refine RunQ.keep [5, 3, 0] (by simp only [go_sem]; rfl) ?_
  refine RunQ.loop (fun i s' => (∀ j q, j < i → L[j]? = some q → q ≠ p) ∧ s' = ⟨[(5, ii i), (3, .bp 0 0), (0, .sl z (L.map encPl))], 18, [.var [ii p.1, ii p.2] false]⟩) L.length ⟨fun j q h => absurd h (by omega), rfl⟩ ?_
  rintro i _ hi ⟨hb, rfl⟩
  by_cases hlt : i < L.length
  · obtain ⟨q, hq⟩ : ∃ q, L[i]? = some q := ⟨_, List.getElem?_eq_getElem hlt⟩
    have hq' : (L.map encPl)[i]? = some (.agg [ii q.1, ii q.2]) := map_get hq
    have hlt' : (i : Int) < L.length := by omega
    have hzn : z ≠ .n := fun e => by rw [hz e] at hq; cases hq
    have e4 : IntKind.i64.wrap ((i : Int) + 1) = ((i + 1 : Nat) : Int) := wrap_id (by omega) (by omega)
    by_cases hqp : q = p
    · have h1 : (q.1 == p.1 && q.2 == p.2) = true := by subst hqp; simp
      have hm : decide (p ∈ L) = true := by simpa using hqp ▸ List.mem_of_getElem? hq
      rw [hm]
      repeat (first | (with_reducible (first | apply wA | apply wB | apply wC | apply wD | apply wE | apply wF | apply wG | apply wH | apply wI | apply wJ | apply wK | apply wL | apply wM | apply wN | apply wO | apply wP | apply wQ rfl | apply wR | apply wS | apply wT | apply wU)) | ((with_reducible (first | apply wV | apply wW | apply wX | (apply wY [] hTT cf0_ok noM_ok mixed; (focus kernel_rfl)))); (focus (simp only [Tryz.f40, hlt', hq', hzn, h1, List.length_map, go_sem]; with_reducible rfl))) | (with_reducible refine wZ hTT cf0_ok noM_ok ?_) | (with_reducible refine wa ?_; refine And.intro ?_ ?_; (focus kernel_rfl)))
      exact ⟨rfl, rfl, _, rfl, rfl⟩
    · have h1 : (q.1 == p.1 && q.2 == p.2) = false := by
        rw [Bool.eq_false_iff]
        intro h
        simp at h
        exact hqp (Prod.ext h.1 h.2)
      repeat (first | (with_reducible (first | apply wA | apply wB | apply wC | apply wD | apply wE | apply wF | apply wG | apply wH | apply wI | apply wJ | apply wK | apply wL | apply wM | apply wN | apply wO | apply wP | apply wQ rfl | apply wR | apply wS | apply wT | apply wU)) | ((with_reducible (first | apply wV | apply wW | apply wX | (apply wY [] hTT cf0_ok noM_ok mixed; (focus kernel_rfl)))); (focus (simp only [Tryz.f40, hlt', hq', hzn, h1, e4, List.length_map, go_sem]; with_reducible rfl))) | (with_reducible refine wZ hTT cf0_ok noM_ok ?_) | (with_reducible refine wa ?_; refine And.intro ?_ ?_; (focus kernel_rfl)))
      refine roundQ.t 1 [5, 3, 0] hlt (by simp only [ltB_pls, go_sem]) ⟨fun j r hj hr => by
        by_cases hji : j = i
        · subst hji; rw [hq] at hr; cases hr; exact hqp
        · exact hb j r (by omega) hr, by simp only [go_sem]⟩
  · have hlt' : ¬ (i : Int) < L.length := by omega
    obtain rfl : i = L.length := by omega
    have hm : decide (p ∈ L) = false := by
      rw [decide_eq_false_iff_not]
      intro h
      obtain ⟨j, hj⟩ := List.getElem?_of_mem h
      exact hb j p (List.getElem?_eq_some_iff.1 hj).1 hj rfl
    rw [hm]
    repeat (first | (with_reducible (first | apply wA | apply wB | apply wC | apply wD | apply wE | apply wF | apply wG | apply wH | apply wI | apply wJ | apply wK | apply wL | apply wM | apply wN | apply wO | apply wP | apply wQ rfl | apply wR | apply wS | apply wT | apply wU)) | ((with_reducible (first | apply wV | apply wW | apply wX | (apply wY [] hTT cf0_ok noM_ok mixed; (focus kernel_rfl)))); (focus (simp only [Tryz.f40, hlt', List.length_map, go_sem]; with_reducible rfl))) | (with_reducible refine wZ hTT cf0_ok noM_ok ?_) | (with_reducible refine wa ?_; refine And.intro ?_ ?_; (focus kernel_rfl)))
    exact ⟨rfl, rfl, _, rfl, rfl⟩
def c40 : List PV → List Box → Option (PRes × List Box)
  | [.sl z es, w], sg => match decL decPl es, decPl w with
    | some L, some p => if (z = .n → L = []) ∧ L.length ≤ 100000 then some (.ret (.bool (decide (p ∈ L))), sg) else none
    | _, _ => none
  | _, _ => none
theorem c40_ok : ConOk Tryz.prog 40 c40 := ConOk.of0 (ent Tryz.func40 rfl) fun args sg r sg' h => by
  unfold c40 at h
  split at h <;> try (cases h; done)
  split at h <;> try (cases h; done)
  rename_i h1 h2
  split at h <;> cases h
  rename_i hc
  obtain rfl := decL_inv decPl_inv h1
  obtain rfl := decPl_inv _ _ h2
  exact ⟨_, rfl, rfl, by rw [ltBL_cons, ltB_sl, ltB_pls]; rfl, met_40 _ _ _ hc.1 hc.2⟩
end Go.Pv
