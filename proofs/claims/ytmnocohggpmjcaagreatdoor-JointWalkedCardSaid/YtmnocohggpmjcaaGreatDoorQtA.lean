/- Contracts: Ends, hangs, field. -/
import Derived.Test.YtmnocohggpmjcaaGreatDoorQgEnds
import Derived.Test.YtmnocohggpmjcaaGreatDoorQoFine
import Derived.Test.YtmnocohggpmjcaaGreatDoorQlLoop
set_option linter.all false
namespace Go.Pv
open Go Go.RowKit Go.Proofs
set_option maxRecDepth 10000
set_option maxHeartbeats 4000000
def cfQ : CallF := cfAdd (cfAdd (cfAdd cfD 85 c85) 86 c86) 87 c87
theorem cfQ_ok : CallFOk Tryz.prog cfQ := cfAdd_ok (cfAdd_ok (cfAdd_ok cfD_ok c85_ok) c86_ok) c87_ok
def endsR (s : Int) (ls : List Lb) (ps : List Int) : PV :=
  match figB s ls && poseG ls ps with
  | true => .tuple [.sl .a ((ends s ls ps).map encPl), ii 0]
  | false => .tuple [.sl .n [], ii 2]
theorem ends_len {s : Int} {ls : List Lb} {ps : List Int} (hf : figB s ls = true) (hp : poseG ls ps = true) : (ends s ls ps).length = ls.length := (ends_at hf hp).lo
theorem Ends_30 (s : Int) (z zp : Z) (ls : List Lb) (ps : List Int) (hzo : zOk z (ls.map encLb) = true) (hp : zOk zp (ps.map ii) = true) :
    CallOk Tryz.prog 30 [.agg [ii s, .sl z (ls.map encLb)], .sl zp (ps.map ii)] [] (.ret (endsR s ls ps)) [] := by
  refine CallOk.ofF hTT Tryz.func30 rfl rfl ?_
  have hd := decFig_enc s z ls hzo
  have hd2 := decIs1_enc hp
  unfold endsR
  cases a1 : figB s ls
  · repeat (first | (with_reducible (first | apply wA | apply wB | apply wC | apply wD | apply wE | apply wF | apply wG | apply wH | apply wI | apply wJ | apply wK | apply wL | apply wM | apply wN | apply wO | apply wP | apply wQ rfl | apply wR | apply wS | apply wT | apply wU)) | ((with_reducible (first | apply wV | apply wW | apply wX | (apply wY [] hTT cfQ_ok noM_ok mixed; (focus kernel_rfl)))); (focus (simp only [Tryz.f30, cfQ, c85, hd, a1, go_sem]; rfl))) | (with_reducible refine wZ hTT cfQ_ok noM_ok ?_) | (with_reducible refine wa ?_; refine And.intro ?_ ?_; (focus kernel_rfl)))
    exact ⟨rfl, rfl, _, rfl, rfl⟩
  obtain ⟨_, _, l1, l5, _⟩ := fig_limbs a1
  have hl1000 : ls.length ≤ 1000 := by omega
  cases a2 : poseG ls ps
  · repeat (first | (with_reducible (first | apply wA | apply wB | apply wC | apply wD | apply wE | apply wF | apply wG | apply wH | apply wI | apply wJ | apply wK | apply wL | apply wM | apply wN | apply wO | apply wP | apply wQ rfl | apply wR | apply wS | apply wT | apply wU)) | ((with_reducible (first | apply wV | apply wW | apply wX | (apply wY [] hTT cfQ_ok noM_ok mixed; (focus kernel_rfl)))); (focus (simp only [Tryz.f30, cfQ, c85, c86, hd, hd2, a1, a2, hl1000, go_sem]; rfl))) | (with_reducible refine wZ hTT cfQ_ok noM_ok ?_) | (with_reducible refine wa ?_; refine And.intro ?_ ?_; (focus kernel_rfl)))
    exact ⟨rfl, rfl, _, rfl, rfl⟩
  have hlen := ends_len a1 a2
  generalize hO : ends s ls ps = O at *
  repeat (first | (with_reducible (first | apply wA | apply wB | apply wC | apply wD | apply wE | apply wF | apply wG | apply wH | apply wI | apply wJ | apply wK | apply wL | apply wM | apply wN | apply wO | apply wP | apply wQ rfl | apply wR | apply wS | apply wT | apply wU)) | ((with_reducible (first | apply wV | apply wW | apply wX | (apply wY [] hTT cfQ_ok noM_ok mixed; (focus kernel_rfl)))); (focus (simp only [Tryz.f30, cfQ, c85, c86, c87, hd, hd2, a1, a2, hl1000, hO, go_sem]; rfl))) | (with_reducible refine wZ hTT cfQ_ok noM_ok ?_) | (with_reducible refine wa ?_; refine And.intro ?_ ?_; (focus kernel_rfl)))
  refine RunQ.keep [22, 21, 20, 6] (by simp only [go_sem]; rfl) ?_
  refine RunQ.nilRow 6 36 2 (by simp only [go_sem]) (by simp only [go_sem]; rfl) (by simp only [go_sem]; rfl) ?_
  refine RunQ.loop (fun i s' => ∃ out, out.length = i ∧ out ++ O.drop i = O ∧
    s' = ⟨[(22, ii i), (21, ii O.length), (20, .sl .a (O.map encPl)), (6, .ms 1 i)], 32, [.var [ii s, .sl z (ls.map encLb)] false, .row (decide (i = 0)) 36 2 (out.map encPl) false]⟩)
    O.length ⟨[], rfl, rfl, rfl⟩ ?_
  rintro i _ hi ⟨out, ho, hout, rfl⟩
  by_cases hlt : i < O.length
  · obtain ⟨p, hp⟩ : ∃ p, O[i]? = some p := ⟨_, List.getElem?_eq_getElem hlt⟩
    have hp' : (O.map encPl)[i]? = some (.agg [ii p.1, ii p.2]) := map_get hp
    have hlt' : (i : Int) < O.length := by omega
    have e4 : IntKind.i64.wrap ((i : Int) + 1) = ((i + 1 : Nat) : Int) := wrap_id (by omega) (by omega)
    have r2 : i + 1 ≤ maxLen := by unfold maxLen; omega
    have r3 : (i + 1) * 16 ≤ 140737488355328 := by omega
    have hd1 : decide (i + 1 = 0) = false := by simp
    repeat (first | (with_reducible (first | apply wA | apply wB | apply wC | apply wD | apply wE | apply wF | apply wG | apply wH | apply wI | apply wJ | apply wK | apply wL | apply wM | apply wN | apply wO | apply wP | apply wQ rfl | apply wR | apply wS | apply wT | apply wU)) | ((with_reducible (first | apply wV | apply wW | apply wX | (apply wY [] hTT cfQ_ok noM_ok mixed; (focus kernel_rfl)))); (focus (simp only [Tryz.f30, cfQ, hp', hlt', e4, r2, r3, ho, go_sem]; rfl))) | (with_reducible refine wZ hTT cfQ_ok noM_ok ?_) | (with_reducible refine wa ?_; refine And.intro ?_ ?_; (focus kernel_rfl)))
    refine roundQ.t 2 [22, 21, 20, 6] hlt (by simp only [ltB_pls, ltB_lbs, go_sem]) ⟨out ++ [p], by simp [ho], by rw [List.append_assoc, List.singleton_append, ← drop_get hp]; exact hout, by simp only [hd1, List.map_append, encPl, go_sem]⟩
  · have hlt' : ¬ (i : Int) < O.length := by omega
    have hi0 : ¬ i = 0 := by omega
    repeat (first | (with_reducible (first | apply wA | apply wB | apply wC | apply wD | apply wE | apply wF | apply wG | apply wH | apply wI | apply wJ | apply wK | apply wL | apply wM | apply wN | apply wO | apply wP | apply wQ rfl | apply wR | apply wS | apply wT | apply wU)) | ((with_reducible (first | apply wV | apply wW | apply wX | (apply wY [] hTT cfQ_ok noM_ok mixed; (focus kernel_rfl)))); (focus (simp only [Tryz.f30, hlt', go_sem]; rfl))) | (with_reducible refine wZ hTT cfQ_ok noM_ok ?_) | (with_reducible refine wa ?_; refine And.intro ?_ ?_; (focus kernel_rfl)))
    refine ⟨rfl, rfl, _, rfl, ?_⟩
    have hen : out = O := by rw [← hout, List.drop_eq_nil_of_le (by omega)]; simp
    subst hen
    have := leave_row2 (sg := [.var [ii s, .sl z (ls.map encLb)] false, .row (decide (i = 0)) 36 2 (out.map encPl) false]) (id := 1) (m := i) rfl (closedL_map (fun _ => rfl) out) (by simp [ho]) (c := ii 0) rfl
    simpa [hi0, tup] using this
def c30 : List PV → List Box → Option (PRes × List Box)
  | [v, p], sg => match decFig v, decIs1 p with
    | some (s, ls), some ps => some (.ret (endsR s ls ps), sg)
    | _, _ => none
  | _, _ => none
theorem zOk_n {α : Type} {g : α → PV} {z : Z} {l : List α} (h : z = .n → l = []) : zOk z (l.map g) = true := by
  cases z
  · rw [h rfl]; rfl
  · rfl
  · rfl
theorem c30_ok : ConOk Tryz.prog 30 c30 := ConOk.of0 (ent Tryz.func30 rfl) fun args sg r sg' h => by
  unfold c30 at h
  split at h <;> try (cases h; done)
  split at h <;> cases h
  rename_i h1 h2
  obtain ⟨z, rfl, hz⟩ := decFig_inv h1
  obtain ⟨zp, rfl, hzp⟩ := decIs1_inv h2
  exact ⟨_, rfl, rfl, by rw [ltBL_cons, ltB_fig, ltBL_cons, ltB_isl]; rfl, Ends_30 _ _ _ _ _ (zOk_n hz) (zOk_n hzp)⟩
end Go.Pv
namespace Go.Pv
open Go Go.RowKit Go.Proofs
set_option maxRecDepth 10000
set_option maxHeartbeats 4000000
end Go.Pv
namespace Go.Pv
open Go Go.RowKit Go.Proofs
set_option maxRecDepth 10000
set_option maxHeartbeats 4000000
theorem Same_49 (za zb : Z) (a b : List Int) (ha : za = .n → a = []) (hb : zb = .n → b = []) (hs : a.length ≤ maxLen) : CallOk Tryz.prog 49 [.sl za (a.map ii), .sl zb (b.map ii)] [] (.ret (.bool (decide (a = b)))) [] := by
  refine CallOk.of0 hTT Tryz.func49 rfl rfl ?_
  unfold maxLen at hs
  by_cases hl : a.length = b.length
  · repeat (first | (with_reducible (first | apply wA | apply wB | apply wC | apply wD | apply wE | apply wF | apply wG | apply wH | apply wI | apply wJ | apply wK | apply wL | apply wM | apply wN | apply wO | apply wP | apply wQ rfl | apply wR | apply wS | apply wT | apply wU)) | ((with_reducible (first | apply wV | apply wW | apply wX | (apply wY [] hTT cf0_ok noM_ok mixed; (focus kernel_rfl)))); (focus (simp only [Tryz.f49, hl, go_sem]; with_reducible rfl))) | (with_reducible refine wZ hTT cf0_ok noM_ok ?_) | (with_reducible refine wa ?_; refine And.intro ?_ ?_; (focus kernel_rfl)))
    refine RunQ.keep [5, 4, 1, 0] (by simp only [go_sem]; rfl) ?_
    refine RunQ.loop (fun i s' => decide (a = b) = decide (a.drop i = b.drop i) ∧ s' = ⟨[(5, ii i), (4, .bool false), (0, .sl za (a.map ii)), (1, .sl zb (b.map ii))], 26, []⟩) b.length ⟨rfl, rfl⟩ ?_
    rintro i _ hi ⟨hm, rfl⟩
    by_cases hlt : i < b.length
    · obtain ⟨x, hx⟩ : ∃ x, a[i]? = some x := ⟨_, List.getElem?_eq_getElem (by omega)⟩
      obtain ⟨y, hy⟩ : ∃ y, b[i]? = some y := ⟨_, List.getElem?_eq_getElem hlt⟩
      have hx' : (a.map ii)[i]? = some (ii x) := map_get hx
      have hy' : (b.map ii)[i]? = some (ii y) := map_get hy
      have hlt' : (i : Int) < b.length := by omega
      have hza' : za ≠ .n := fun e => by rw [ha e] at hl; simp at hl; omega
      have hzb' : zb ≠ .n := fun e => by rw [hb e] at hlt; simp at hlt
      have e4 : IntKind.i64.wrap ((i : Int) + 1) = ((i + 1 : Nat) : Int) := wrap_id (by omega) (by omega)
      by_cases hxy : x = y
      · have h1 : (x != y) = false := by simp [hxy]
        repeat (first | (with_reducible (first | apply wA | apply wB | apply wC | apply wD | apply wE | apply wF | apply wG | apply wH | apply wI | apply wJ | apply wK | apply wL | apply wM | apply wN | apply wO | apply wP | apply wQ rfl | apply wR | apply wS | apply wT | apply wU)) | ((with_reducible (first | apply wV | apply wW | apply wX | (apply wY [] hTT cf0_ok noM_ok mixed; (focus kernel_rfl)))); (focus (simp only [Tryz.f49, hl, hx', hy', hlt', hza', hzb', e4, h1, go_sem]; with_reducible rfl))) | (with_reducible refine wZ hTT cf0_ok noM_ok ?_) | (with_reducible refine wa ?_; refine And.intro ?_ ?_; (focus kernel_rfl)))
        refine roundQ.t 0 [5, 4, 0, 1] hlt (by simp only [ltB_is, go_sem]) ⟨by rw [hm, decide_step hx hy, decide_eq_true hxy]; rfl, by simp only [go_sem]⟩
      · have h1 : (x != y) = true := by simp [hxy]
        repeat (first | (with_reducible (first | apply wA | apply wB | apply wC | apply wD | apply wE | apply wF | apply wG | apply wH | apply wI | apply wJ | apply wK | apply wL | apply wM | apply wN | apply wO | apply wP | apply wQ rfl | apply wR | apply wS | apply wT | apply wU)) | ((with_reducible (first | apply wV | apply wW | apply wX | (apply wY [] hTT cf0_ok noM_ok mixed; (focus kernel_rfl)))); (focus (simp only [Tryz.f49, hl, hx', hy', hlt', hza', hzb', e4, h1, go_sem]; with_reducible rfl))) | (with_reducible refine wZ hTT cf0_ok noM_ok ?_) | (with_reducible refine wa ?_; refine And.intro ?_ ?_; (focus kernel_rfl)))
        refine ⟨rfl, rfl, _, rfl, ?_⟩
        rw [hm, decide_step hx hy, decide_eq_false hxy]; rfl
    · have hlt' : ¬ (i : Int) < b.length := by omega
      repeat (first | (with_reducible (first | apply wA | apply wB | apply wC | apply wD | apply wE | apply wF | apply wG | apply wH | apply wI | apply wJ | apply wK | apply wL | apply wM | apply wN | apply wO | apply wP | apply wQ rfl | apply wR | apply wS | apply wT | apply wU)) | ((with_reducible (first | apply wV | apply wW | apply wX | (apply wY [] hTT cf0_ok noM_ok mixed; (focus kernel_rfl)))); (focus (simp only [Tryz.f49, hl, hlt', go_sem]; with_reducible rfl))) | (with_reducible refine wZ hTT cf0_ok noM_ok ?_) | (with_reducible refine wa ?_; refine And.intro ?_ ?_; (focus kernel_rfl)))
      refine ⟨rfl, rfl, _, rfl, ?_⟩
      rw [hm, List.drop_eq_nil_of_le (by omega), List.drop_eq_nil_of_le (by omega)]; rfl
  · have hl' : ((a.length : Int) != (b.length : Int)) = true := bne_true (by omega)
    repeat (first | (with_reducible (first | apply wA | apply wB | apply wC | apply wD | apply wE | apply wF | apply wG | apply wH | apply wI | apply wJ | apply wK | apply wL | apply wM | apply wN | apply wO | apply wP | apply wQ rfl | apply wR | apply wS | apply wT | apply wU)) | ((with_reducible (first | apply wV | apply wW | apply wX | (apply wY [] hTT cf0_ok noM_ok mixed; (focus kernel_rfl)))); (focus (simp only [Tryz.f49, hl', go_sem]; with_reducible rfl))) | (with_reducible refine wZ hTT cf0_ok noM_ok ?_) | (with_reducible refine wa ?_; refine And.intro ?_ ?_; (focus kernel_rfl)))
    refine ⟨rfl, rfl, _, rfl, ?_⟩
    rw [decide_eq_false (fun e => hl (by rw [e]))]; rfl
def c49 : List PV → List Box → Option (PRes × List Box)
  | [v, w], sg => match decIs1 v, decIs1 w with
    | some a, some b => if a.length ≤ maxLen then some (.ret (.bool (decide (a = b))), sg) else none
    | _, _ => none
  | _, _ => none
theorem c49_ok : ConOk Tryz.prog 49 c49 := ConOk.of0 (ent Tryz.func49 rfl) fun args sg r sg' h => by
  unfold c49 at h
  split at h <;> try (cases h; done)
  split at h <;> try (cases h; done)
  rename_i h1 h2
  split at h <;> cases h
  rename_i hc
  obtain ⟨za, rfl, ha⟩ := decIs1_inv h1
  obtain ⟨zb, rfl, hb⟩ := decIs1_inv h2
  exact ⟨_, rfl, rfl, by rw [ltBL_cons, ltB_isl, ltBL_cons, ltB_isl]; rfl, Same_49 _ _ _ _ ha hb hc⟩
end Go.Pv
namespace Go.Pv
open Go Go.RowKit Go.Proofs
set_option maxRecDepth 10000
set_option maxHeartbeats 4000000
end Go.Pv
namespace Go.Pv
open Go Go.RowKit Go.Proofs
set_option maxRecDepth 10000
set_option maxHeartbeats 4000000
end Go.Pv
