/- Contracts: the reference's ends; Check. -/
import Derived.Test.YtmnocohggpmjcaaGreatDoorQkSame
set_option linter.all false
namespace Go.Pv
open Go Go.RowKit Go.Proofs
set_option maxRecDepth 10000
set_option maxHeartbeats 4000000
theorem step_120 (d : Int) (h0 : 0 ≤ d) (h8 : d < 8) : CallOk Tryz.prog 120 [ii d] [] (.ret (encPl (stepG d))) [] := by
  rcases (show d = 0 ∨ d = 1 ∨ d = 2 ∨ d = 3 ∨ d = 4 ∨ d = 5 ∨ d = 6 ∨ d = 7 by omega) with rfl | rfl | rfl | rfl | rfl | rfl | rfl | rfl
  all_goals
    exact (ev_call hTT noM_ok mixed named prim0_ok (k := 60) (by kernel_rfl)).2.1
theorem c120_ok : ConOk Tryz.prog 120 c131 := ConOk.of0 (ent Tryz.func120 rfl) fun args sg r sg' h => by
  unfold c131 at h
  split at h <;> try (cases h; done)
  split at h <;> cases h
  rename_i d hd
  exact ⟨_, rfl, rfl, rfl, step_120 d hd.1 hd.2⟩
def cfRe : CallF := cfAdd cf0 120 c131
theorem cfRe_ok : CallFOk Tryz.prog cfRe := cfAdd_ok cf0_ok c120_ok
/-- Turns by eighths. -/
def em8 (w : Int) : PV := ii (w % 8)
theorem ltB_em8 (m : Nat) (l : List Int) : ltBL m (l.map em8) = true := ltBL_map (fun _ => rfl) l
theorem tmod8' (w t : Int) (hw : -1000 ≤ w) (ht : -4 ≤ t) : (w % 8 + t + 8).tmod 8 = (w + t) % 8 := by
  rw [Int.tmod_eq_emod_of_nonneg (by omega)]
  omega
theorem ref_facts {a b w t l : Int} (ha : -1000 ≤ a ∧ a ≤ 1000) (hb : -1000 ≤ b ∧ b ≤ 1000) (hw : -1000 ≤ w ∧ w ≤ 1000) (ht : -4 ≤ t ∧ t ≤ 4) (h1 : 1 ≤ l) (h2 : l ≤ 20) :
    IntKind.i64.wrap (w % 8 + t) = w % 8 + t ∧ IntKind.i64.wrap (w % 8 + t + 8) = w % 8 + t + 8 ∧ (w % 8 + t + 8).tmod 8 = (w + t) % 8 ∧ 0 ≤ (w + t) % 8 ∧ (w + t) % 8 < 8 ∧
    IntKind.i64.wrap (l * (stepG ((w + t) % 8)).1) = l * (stepG ((w + t) % 8)).1 ∧ IntKind.i64.wrap (l * (stepG ((w + t) % 8)).2) = l * (stepG ((w + t) % 8)).2 ∧
    IntKind.i64.wrap (a + l * (stepG ((w + t) % 8)).1) = a + l * (stepG ((w + t) % 8)).1 ∧ IntKind.i64.wrap (b + l * (stepG ((w + t) % 8)).2) = b + l * (stepG ((w + t) % 8)).2 ∧
    (-140 ≤ l * (stepG ((w + t) % 8)).1 ∧ l * (stepG ((w + t) % 8)).1 ≤ 140) ∧ (-140 ≤ l * (stepG ((w + t) % 8)).2 ∧ l * (stepG ((w + t) % 8)).2 ≤ 140) := by
  obtain ⟨v1, v2⟩ := step_vals ((w + t) % 8)
  have m1 := mul_step (l := l) (by omega) (by omega) v1
  have m2 := mul_step (l := l) (by omega) (by omega) v2
  exact ⟨wrap_id (by omega) (by omega), wrap_id (by omega) (by omega), tmod8' w t (by omega) (by omega), by omega, by omega, wrap_id (by omega) (by omega), wrap_id (by omega) (by omega),
    wrap_id (by omega) (by omega), wrap_id (by omega) (by omega), m1, m2⟩
theorem refEnds_69 (s : Int) (z zp : Z) (ls : List Lb) (ps : List Int) (hz : z = .n → ls = []) (hp : zp = .n → ps = []) (hf : figB s ls = true) (hpo : poseG ls ps = true) :
    CallOk Tryz.prog 69 [.agg [ii s, .sl z (ls.map encLb)], .sl zp (ps.map ii)] [] (.ret (.sl .a ((ends s ls ps).map encPl))) [] := by
  refine CallOk.ofF hTT Tryz.func69 rfl rfl ?_
  obtain ⟨s0, s7, l1, l5, hlb⟩ := fig_limbs hf
  obtain ⟨hl, hpa⟩ := pose_at hpo
  repeat (first | (with_reducible (first | apply wA | apply wB | apply wC | apply wD | apply wE | apply wF | apply wG | apply wH | apply wI | apply wJ | apply wK | apply wL | apply wM | apply wN | apply wO | apply wP | apply wQ rfl | apply wR | apply wS | apply wT | apply wU)) | ((with_reducible (first | apply wV | apply wW | apply wX | (apply wY [] hTT cfRe_ok noM_ok mixed; (focus kernel_rfl)))); (focus (simp only [Tryz.f69, cfRe, go_sem]; rfl))) | (with_reducible refine wZ hTT cfRe_ok noM_ok ?_) | (with_reducible refine wa ?_; refine And.intro ?_ ?_; (focus kernel_rfl)))
  refine RunQ.keep [7, 6, 5, 2, 1] (by simp only [go_sem]; rfl) ?_
  refine RunQ.nilRow 5 36 2 (by simp only [go_sem]) (by simp only [go_sem]; rfl) (by simp only [go_sem]; rfl) ?_
  refine RunQ.nilRow 6 3 1 (by simp only [go_sem]) (by simp only [go_sem]; rfl) (by simp only [go_sem]; rfl) ?_
  refine RunQ.loop (fun i s' => ∃ (out : List Pl) (tr : List Int), endsG s ls ps [] [] = endsG s (ls.drop i) (ps.drop i) out tr ∧ out.length = i ∧ tr.length = i ∧ (∀ p ∈ out, bdP i p) ∧ (∀ t ∈ tr, -(4 * (i : Int)) ≤ t ∧ t ≤ 7 + 4 * (i : Int)) ∧
    s' = ⟨[(7, ii i), (6, .ms 2 i), (5, .ms 1 i), (2, .bp 0 0), (1, .sl zp (ps.map ii))], 75, [.var [ii s, .sl z (ls.map encLb)] false, .row (decide (i = 0)) 36 2 (out.map encPl) false, .row (decide (i = 0)) 3 1 (tr.map em8) false]⟩)
    ls.length ⟨[], [], rfl, rfl, rfl, (fun p h => by cases h), (fun t h => by cases h), rfl⟩ ?_
  rintro i _ hi ⟨out, tr, hm, ho, ht, hbo, hbt, rfl⟩
  by_cases hlt : i < ls.length
  · obtain ⟨x, hx⟩ : ∃ x, ls[i]? = some x := ⟨_, List.getElem?_eq_getElem hlt⟩
    obtain ⟨t, htt⟩ : ∃ t, ps[i]? = some t := ⟨_, List.getElem?_eq_getElem (by omega)⟩
    have hx' : (ls.map encLb)[i]? = some (.agg [ii x.p, ii x.l, ii x.lo, ii x.hi, ii x.w]) := map_get hx
    have ht' : (ps.map ii)[i]? = some (ii t) := map_get htt
    have hlt' : (i : Int) < ls.length := by omega
    have hz' : z ≠ .n := fun e => by rw [hz e] at hlt; simp at hlt
    have hzp' : zp ≠ .n := fun e => by rw [hp e] at hl; simp at hl; omega
    have hb := lb_d (hlb i x hx)
    have htb := hpa i x t hx htt
    have e4 : IntKind.i64.wrap ((i : Int) + 1) = ((i + 1 : Nat) : Int) := wrap_id (by omega) (by omega)
    have r1 : (i + 1) * 8 ≤ 140737488355328 := by omega
    have r2 : i + 1 ≤ maxLen := by unfold maxLen; omega
    have r3 : (i + 1) * 16 ≤ 140737488355328 := by omega
    have hd1 : decide (i + 1 = 0) = false := by simp
    have fin : ∀ (a b w : Int), fromG s x out tr = ((a, b), w) → (-(140 * (i : Int)) ≤ a ∧ a ≤ 140 * (i : Int) ∧ -(140 * (i : Int)) ≤ b ∧ b ≤ 140 * (i : Int)) → (-(4 * (i : Int)) ≤ w ∧ w ≤ 7 + 4 * (i : Int)) →
        turnG s x out tr t = w + t ∧ endG s x out tr t = (a + x.l * (stepG ((w + t) % 8)).1, b + x.l * (stepG ((w + t) % 8)).2) ∧
        endsG s ls ps [] [] = endsG s (ls.drop (i + 1)) (ps.drop (i + 1)) (out ++ [endG s x out tr t]) (tr ++ [turnG s x out tr t]) ∧ (out ++ [endG s x out tr t]).length = i + 1 ∧ (tr ++ [turnG s x out tr t]).length = i + 1 ∧
        (∀ p ∈ out ++ [endG s x out tr t], bdP (i + 1) p) ∧ (∀ t' ∈ tr ++ [turnG s x out tr t], -(4 * ((i + 1 : Nat) : Int)) ≤ t' ∧ t' ≤ 7 + 4 * ((i + 1 : Nat) : Int)) := by
      intro a b w hfr hab hw
      have htn : turnG s x out tr t = w + t := by unfold turnG; rw [hfr]
      have hen : endG s x out tr t = (a + x.l * (stepG ((w + t) % 8)).1, b + x.l * (stepG ((w + t) % 8)).2) := by unfold endG; rw [htn, hfr]
      obtain ⟨_, _, _, _, _, _, _, _, _, m1, m2⟩ := ref_facts (a := a) (b := b) (w := w) (t := t) (l := x.l) (by omega) (by omega) (by omega) (by omega) (by omega) (by omega)
      refine ⟨htn, hen, ?_, by simp [ho], by simp [ht], fun p h => ?_, fun t' h => ?_⟩
      · rw [hm, drop_get hx, drop_get htt]; rfl
      · rcases List.mem_append.1 h with h | h
        · have := hbo p h; unfold bdP at *; omega
        · simp at h; subst h; rw [hen]; unfold bdP; simp only; omega
      · rcases List.mem_append.1 h with h | h
        · have := hbt t' h; omega
        · simp at h; subst h; rw [htn]; omega
    by_cases hp0 : 0 ≤ x.p
    · have hpi : x.p.toNat < i := by omega
      obtain ⟨q, hq⟩ : ∃ q, out[x.p.toNat]? = some q := ⟨_, List.getElem?_eq_getElem (by omega)⟩
      obtain ⟨w, hw⟩ : ∃ w, tr[x.p.toNat]? = some w := ⟨_, List.getElem?_eq_getElem (by omega)⟩
      have hq' : (out.map encPl)[x.p.toNat]? = some (.agg [ii q.1, ii q.2]) := map_get hq
      have hw' : (tr.map em8)[x.p.toNat]? = some (ii (w % 8)) := map_get hw
      have hfr : fromG s x out tr = ((q.1, q.2), w) := by unfold fromG; rw [if_pos hp0, List.getD, hq, List.getD, hw]; rfl
      have hqb := hbo q (List.mem_of_getElem? hq)
      have hwb := hbt w (List.mem_of_getElem? hw)
      have hpi' : x.p < (i : Int) := by omega
      have hi0 : ¬ i = 0 := by omega
      obtain ⟨htn, hen, g1, g2, g3, g4, g5⟩ := fin q.1 q.2 w hfr hqb hwb
      unfold bdP at hqb
      obtain ⟨e5, e6, e7, e8, e9, e10, e11, e12, e13, _, _⟩ := ref_facts (a := q.1) (b := q.2) (w := w) (t := t) (l := x.l) (by omega) (by omega) (by omega) (by omega) (by omega) (by omega)
      repeat (first | (with_reducible (first | apply wA | apply wB | apply wC | apply wD | apply wE | apply wF | apply wG | apply wH | apply wI | apply wJ | apply wK | apply wL | apply wM | apply wN | apply wO | apply wP | apply wQ rfl | apply wR | apply wS | apply wT | apply wU)) | ((with_reducible (first | apply wV | apply wW | apply wX | (apply wY [] hTT cfRe_ok noM_ok mixed; (focus kernel_rfl)))); (focus (simp only [Tryz.f69, cfRe, c131, hx', ht', hlt', hz', hzp', hp0, hq', hw', hpi', hi0, e4, r1, r2, r3, ho, ht, ge_iff_le, e5, e6, e7, e8, e9, encPl, e10, e11, e12, e13, go_sem]; rfl))) | (with_reducible refine wZ hTT cfRe_ok noM_ok ?_) | (with_reducible refine wa ?_; refine And.intro ?_ ?_; (focus kernel_rfl)))
      refine roundQ.t 3 [7, 6, 5, 2, 1] hlt (by simp only [ltB_pls, ltB_em8, ltB_lbs, go_sem]) ⟨_, _, g1, g2, g3, g4, g5, by simp only [hd1, hen, htn, List.map_append, encPl, em8, go_sem]⟩
    · have hfr : fromG s x out tr = ((0, 0), s) := if_neg hp0
      have hs8 : s % 8 = s := by omega
      obtain ⟨htn, hen, g1, g2, g3, g4, g5⟩ := fin 0 0 s hfr (by omega) (by omega)
      obtain ⟨e5, e6, e7, e8, e9, e10, e11, e12, e13, _, _⟩ := ref_facts (a := 0) (b := 0) (w := s) (t := t) (l := x.l) (by omega) (by omega) (by omega) (by omega) (by omega) (by omega)
      rw [hs8] at e5 e6 e7
      repeat (first | (with_reducible (first | apply wA | apply wB | apply wC | apply wD | apply wE | apply wF | apply wG | apply wH | apply wI | apply wJ | apply wK | apply wL | apply wM | apply wN | apply wO | apply wP | apply wQ rfl | apply wR | apply wS | apply wT | apply wU)) | ((with_reducible (first | apply wV | apply wW | apply wX | (apply wY [] hTT cfRe_ok noM_ok mixed; (focus kernel_rfl)))); (focus (simp only [Tryz.f69, cfRe, c131, hx', ht', hlt', hz', hzp', hp0, e4, r1, r2, r3, ho, ht, ge_iff_le, e5, e6, e7, e8, e9, encPl, e10, e11, e12, e13, go_sem]; rfl))) | (with_reducible refine wZ hTT cfRe_ok noM_ok ?_) | (with_reducible refine wa ?_; refine And.intro ?_ ?_; (focus kernel_rfl)))
      refine roundQ.t 3 [7, 6, 5, 2, 1] hlt (by simp only [ltB_pls, ltB_em8, ltB_lbs, go_sem]) ⟨_, _, g1, g2, g3, g4, g5, by simp only [hd1, hen, htn, List.map_append, encPl, em8, go_sem]⟩
  · have hlt' : ¬ (i : Int) < ls.length := by omega
    have hi0 : ¬ i = 0 := by omega
    repeat (first | (with_reducible (first | apply wA | apply wB | apply wC | apply wD | apply wE | apply wF | apply wG | apply wH | apply wI | apply wJ | apply wK | apply wL | apply wM | apply wN | apply wO | apply wP | apply wQ rfl | apply wR | apply wS | apply wT | apply wU)) | ((with_reducible (first | apply wV | apply wW | apply wX | (apply wY [] hTT cfRe_ok noM_ok mixed; (focus kernel_rfl)))); (focus (simp only [Tryz.f69, hlt', go_sem]; rfl))) | (with_reducible refine wZ hTT cfRe_ok noM_ok ?_) | (with_reducible refine wa ?_; refine And.intro ?_ ?_; (focus kernel_rfl)))
    refine ⟨rfl, rfl, _, rfl, ?_⟩
    have hen : ends s ls ps = out := by unfold ends; rw [hm, List.drop_eq_nil_of_le (by omega)]; rfl
    rw [hen]
    have := leave_row (sg := [.var [ii s, .sl z (ls.map encLb)] false, .row (decide (i = 0)) 36 2 (out.map encPl) false, .row (decide (i = 0)) 3 1 (tr.map em8) false]) (id := 1) (m := i) rfl (closedL_map (fun _ => rfl) out) (by simp [ho])
    simpa [hi0, tup] using this
theorem c69_ok : ConOk Tryz.prog 69 c87 := ConOk.of0 (ent Tryz.func69 rfl) fun args sg r sg' h => by
  unfold c87 at h
  split at h <;> try (cases h; done)
  split at h <;> try (cases h; done)
  rename_i h1 h2
  split at h <;> cases h
  rename_i hc
  obtain ⟨z, rfl, hz⟩ := decFig_inv h1
  obtain ⟨zp, rfl, hzp⟩ := decIs1_inv h2
  exact ⟨_, rfl, rfl, by rw [ltBL_cons, ltB_fig, ltBL_cons, ltB_isl]; rfl, refEnds_69 _ _ _ _ _ hz hzp hc.1 hc.2⟩
end Go.Pv
