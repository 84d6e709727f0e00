/- Contracts: the reference's lists between two others. -/
import Derived.Test.YtmnocohggpmjcaaGreatDoorQoFine
import Derived.Test.YtmnocohggpmjcaaGreatDoorQlLoop
import Derived.Test.YtmnocohggpmjcaaGreatDoorQgEnds
set_option linter.all false
namespace Go.Pv
open Go Go.RowKit Go.Proofs
set_option maxRecDepth 10000
set_option maxHeartbeats 4000000
end Go.Pv
namespace Go.Pv
open Go Go.RowKit Go.Proofs
set_option maxRecDepth 10000
set_option maxHeartbeats 4000000
end Go.Pv
namespace Go.Pv
open Go Go.RowKit Go.Proofs
set_option maxRecDepth 10000
set_option maxHeartbeats 4000000
end Go.Pv
namespace Go.Pv
open Go Go.RowKit Go.Proofs
set_option maxRecDepth 10000
set_option maxHeartbeats 4000000
theorem Same_49 (za zb : Z) (a b : List Int) (ha : za = .n → a = []) (hb : zb = .n → b = []) (hs : a.length ≤ maxLen) : CallOk Tryz.prog 49 [.sl za (a.map ii), .sl zb (b.map ii)] [] (.ret (.bool (decide (a = b)))) [] := by
  refine CallOk.of0 hTT Tryz.func49 rfl rfl ?_
  unfold maxLen at hs
  by_cases hl : a.length = b.length
  · repeat (first | (with_reducible (first | apply wA | apply wB | apply wC | apply wD | apply wE | apply wF | apply wG | apply wH | apply wI | apply wJ | apply wK | apply wL | apply wM | apply wN | apply wO | apply wP | apply wQ rfl | apply wR | apply wS | apply wT | apply wU)) | ((with_reducible (first | apply wV | apply wW | apply wX | (apply wY [] hTT cf0_ok noM_ok mixed; (focus kernel_rfl)))); (focus (simp only [Tryz.f49, hl, go_sem]; with_reducible rfl))) | (with_reducible refine wZ hTT cf0_ok noM_ok ?_) | (with_reducible refine wa ?_; refine And.intro ?_ ?_; (focus kernel_rfl)))
    refine RunQ.keep [5, 4, 1, 0] (by simp only [go_sem]; rfl) ?_
    refine RunQ.loop (fun i s' => decide (a = b) = decide (a.drop i = b.drop i) ∧ s' = ⟨[(5, ii i), (4, .bool false), (0, .sl za (a.map ii)), (1, .sl zb (b.map ii))], 26, []⟩) b.length ⟨rfl, rfl⟩ ?_
    rintro i _ hi ⟨hm, rfl⟩
    by_cases hlt : i < b.length
    · obtain ⟨x, hx⟩ : ∃ x, a[i]? = some x := ⟨_, List.getElem?_eq_getElem (by omega)⟩
      obtain ⟨y, hy⟩ : ∃ y, b[i]? = some y := ⟨_, List.getElem?_eq_getElem hlt⟩
      have hx' : (a.map ii)[i]? = some (ii x) := map_get hx
      have hy' : (b.map ii)[i]? = some (ii y) := map_get hy
      have hlt' : (i : Int) < b.length := by omega
      have hza' : za ≠ .n := fun e => by rw [ha e] at hl; simp at hl; omega
      have hzb' : zb ≠ .n := fun e => by rw [hb e] at hlt; simp at hlt
      have e4 : IntKind.i64.wrap ((i : Int) + 1) = ((i + 1 : Nat) : Int) := wrap_id (by omega) (by omega)
      by_cases hxy : x = y
      · have h1 : (x != y) = false := by simp [hxy]
        repeat (first | (with_reducible (first | apply wA | apply wB | apply wC | apply wD | apply wE | apply wF | apply wG | apply wH | apply wI | apply wJ | apply wK | apply wL | apply wM | apply wN | apply wO | apply wP | apply wQ rfl | apply wR | apply wS | apply wT | apply wU)) | ((with_reducible (first | apply wV | apply wW | apply wX | (apply wY [] hTT cf0_ok noM_ok mixed; (focus kernel_rfl)))); (focus (simp only [Tryz.f49, hl, hx', hy', hlt', hza', hzb', e4, h1, go_sem]; with_reducible rfl))) | (with_reducible refine wZ hTT cf0_ok noM_ok ?_) | (with_reducible refine wa ?_; refine And.intro ?_ ?_; (focus kernel_rfl)))
        refine roundQ.t 0 [5, 4, 0, 1] hlt (by simp only [ltB_is, go_sem]) ⟨by rw [hm, decide_step hx hy, decide_eq_true hxy]; rfl, by simp only [go_sem]⟩
      · have h1 : (x != y) = true := by simp [hxy]
        repeat (first | (with_reducible (first | apply wA | apply wB | apply wC | apply wD | apply wE | apply wF | apply wG | apply wH | apply wI | apply wJ | apply wK | apply wL | apply wM | apply wN | apply wO | apply wP | apply wQ rfl | apply wR | apply wS | apply wT | apply wU)) | ((with_reducible (first | apply wV | apply wW | apply wX | (apply wY [] hTT cf0_ok noM_ok mixed; (focus kernel_rfl)))); (focus (simp only [Tryz.f49, hl, hx', hy', hlt', hza', hzb', e4, h1, go_sem]; with_reducible rfl))) | (with_reducible refine wZ hTT cf0_ok noM_ok ?_) | (with_reducible refine wa ?_; refine And.intro ?_ ?_; (focus kernel_rfl)))
        refine ⟨rfl, rfl, _, rfl, ?_⟩
        rw [hm, decide_step hx hy, decide_eq_false hxy]; rfl
    · have hlt' : ¬ (i : Int) < b.length := by omega
      repeat (first | (with_reducible (first | apply wA | apply wB | apply wC | apply wD | apply wE | apply wF | apply wG | apply wH | apply wI | apply wJ | apply wK | apply wL | apply wM | apply wN | apply wO | apply wP | apply wQ rfl | apply wR | apply wS | apply wT | apply wU)) | ((with_reducible (first | apply wV | apply wW | apply wX | (apply wY [] hTT cf0_ok noM_ok mixed; (focus kernel_rfl)))); (focus (simp only [Tryz.f49, hl, hlt', go_sem]; with_reducible rfl))) | (with_reducible refine wZ hTT cf0_ok noM_ok ?_) | (with_reducible refine wa ?_; refine And.intro ?_ ?_; (focus kernel_rfl)))
      refine ⟨rfl, rfl, _, rfl, ?_⟩
      rw [hm, List.drop_eq_nil_of_le (by omega), List.drop_eq_nil_of_le (by omega)]; rfl
  · have hl' : ((a.length : Int) != (b.length : Int)) = true := bne_true (by omega)
    repeat (first | (with_reducible (first | apply wA | apply wB | apply wC | apply wD | apply wE | apply wF | apply wG | apply wH | apply wI | apply wJ | apply wK | apply wL | apply wM | apply wN | apply wO | apply wP | apply wQ rfl | apply wR | apply wS | apply wT | apply wU)) | ((with_reducible (first | apply wV | apply wW | apply wX | (apply wY [] hTT cf0_ok noM_ok mixed; (focus kernel_rfl)))); (focus (simp only [Tryz.f49, hl', go_sem]; with_reducible rfl))) | (with_reducible refine wZ hTT cf0_ok noM_ok ?_) | (with_reducible refine wa ?_; refine And.intro ?_ ?_; (focus kernel_rfl)))
    refine ⟨rfl, rfl, _, rfl, ?_⟩
    rw [decide_eq_false (fun e => hl (by rw [e]))]; rfl
def c49 : List PV → List Box → Option (PRes × List Box)
  | [v, w], sg => match decIs1 v, decIs1 w with
    | some a, some b => if a.length ≤ maxLen then some (.ret (.bool (decide (a = b))), sg) else none
    | _, _ => none
  | _, _ => none
theorem c49_ok : ConOk Tryz.prog 49 c49 := ConOk.of0 (ent Tryz.func49 rfl) fun args sg r sg' h => by
  unfold c49 at h
  split at h <;> try (cases h; done)
  split at h <;> try (cases h; done)
  rename_i h1 h2
  split at h <;> cases h
  rename_i hc
  obtain ⟨za, rfl, ha⟩ := decIs1_inv h1
  obtain ⟨zb, rfl, hb⟩ := decIs1_inv h2
  exact ⟨_, rfl, rfl, by rw [ltBL_cons, ltB_isl, ltBL_cons, ltB_isl]; rfl, Same_49 _ _ _ _ ha hb hc⟩
end Go.Pv
namespace Go.Pv
open Go Go.RowKit Go.Proofs
set_option maxRecDepth 10000
set_option maxHeartbeats 4000000
end Go.Pv
