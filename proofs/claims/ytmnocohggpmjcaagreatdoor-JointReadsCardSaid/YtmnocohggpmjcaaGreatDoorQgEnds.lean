/- Contracts: ends. -/
import Derived.Test.YtmnocohggpmjcaaGreatDoorQfJoint
import Derived.Test.YtmnocohggpmjcaaGreatDoorQdWalk
import Derived.Test.YtmnocohggpmjcaaGreatDoorQcEval
set_option linter.all false
namespace Go.Pv
open Go Go.RowKit Go.Proofs
set_option maxRecDepth 10000
set_option maxHeartbeats 4000000
theorem step_vals (d : Int) : ((stepG d).1 = 7 ∨ (stepG d).1 = 5 ∨ (stepG d).1 = 0 ∨ (stepG d).1 = -5 ∨ (stepG d).1 = -7) ∧ ((stepG d).2 = 7 ∨ (stepG d).2 = 5 ∨ (stepG d).2 = 0 ∨ (stepG d).2 = -5 ∨ (stepG d).2 = -7) := by
  unfold stepG
  generalize d.toNat = n
  rcases n with _ | _ | _ | _ | _ | _ | _ | _ | n <;> simp [dirX, dirY]
theorem mul_step {l d : Int} (h1 : 1 ≤ l) (h2 : l ≤ 20) (hd : d = 7 ∨ d = 5 ∨ d = 0 ∨ d = -5 ∨ d = -7) : -140 ≤ l * d ∧ l * d ≤ 140 := by
  rcases hd with rfl | rfl | rfl | rfl | rfl <;> omega
theorem tmod8 (a : Int) : (a.tmod 8 + 8).tmod 8 = a % 8 := by
  have h1 := Int.tmod_def a 8
  have h2 := Int.tmod_lt_of_pos a (show (0 : Int) < 8 by decide)
  have h3 : -8 < a.tmod 8 := by
    have := Int.tmod_lt_of_pos (-a) (show (0 : Int) < 8 by decide)
    rw [Int.neg_tmod] at this
    omega
  rw [Int.tmod_eq_emod_of_nonneg (by omega)]
  generalize a.tdiv 8 = q at h1
  omega
theorem tmod8_bd (a : Int) : -8 < a.tmod 8 ∧ a.tmod 8 < 8 := by
  have h2 := Int.tmod_lt_of_pos a (show (0 : Int) < 8 by decide)
  have := Int.tmod_lt_of_pos (-a) (show (0 : Int) < 8 by decide)
  rw [Int.neg_tmod] at this
  omega
theorem sumW_two {a b : Int} (h1 : -1000000 ≤ a) (h2 : a ≤ 1000000) (h3 : -1000000 ≤ b) (h4 : b ≤ 1000000) : sumW 0 [a, b] = a + b := by
  simp only [sumW, Int.zero_add]
  rw [wrap_id (n := a) (by omega) (by omega), wrap_id (by omega) (by omega)]
/-- What a figure that is as defined has. -/
theorem fig_limbs {s : Int} {ls : List Lb} (h : figB s ls = true) : 0 ≤ s ∧ s ≤ 7 ∧ 1 ≤ ls.length ∧ ls.length ≤ 5 ∧ ∀ (i : Nat) (x : Lb), ls[i]? = some x → lbB i x = true := by
  unfold figB at h
  have key : ∀ (l : List Lb) (j : Int) (m r : Int), manyG j m l = some r → ∀ (i : Nat) (x : Lb), l[i]? = some x → lbB (j + i) x = true := by
    intro l
    induction l with
    | nil => intro j m r _ i x hx; simp at hx
    | cons y l ih =>
      intro j m r hr i x hx
      unfold manyG at hr
      split at hr <;> try (cases hr; done)
      cases i with
      | zero => simp at hx; subst hx; simpa using ‹lbB j y = true›
      | succ i =>
        have := ih _ _ _ hr i x (by simpa using hx)
        rw [show j + ((i + 1 : Nat) : Int) = j + 1 + i by omega]
        exact this
  split at h
  · rename_i m hm
    simp [inB] at h
    refine ⟨by omega, by omega, by omega, by omega, fun i x hx => ?_⟩
    have := key ls 0 1 m hm i x hx
    simpa using this
  · simp at h
theorem pose_at {ls : List Lb} {ps : List Int} (h : poseG ls ps = true) : ps.length = ls.length ∧ ∀ (i : Nat) (x : Lb) (t : Int), ls[i]? = some x → ps[i]? = some t → x.lo ≤ t ∧ t ≤ x.hi := by
  induction ls generalizing ps with
  | nil =>
    cases ps with
    | nil => exact ⟨rfl, fun i x t hx => by simp at hx⟩
    | cons t q => cases h
  | cons x r ih =>
    cases ps with
    | nil => cases h
    | cons t q =>
      simp only [poseG, Bool.and_eq_true] at h
      obtain ⟨h1, h2⟩ := ih h.2
      refine ⟨by simp [h1], fun i x' t' hx ht => ?_⟩
      cases i with
      | zero => simp at hx ht; subst hx; subst ht; simpa [inB] using h.1
      | succ i => exact h2 i x' t' (by simpa using hx) (by simpa using ht)
theorem ltBL_append (m : Nat) : ∀ (a b : List PV), ltBL m (a ++ b) = (ltBL m a && ltBL m b)
  | [], b => by simp [ltBL]
  | x :: a, b => by simp only [List.cons_append, ltBL, ltBL_append m a b, Bool.and_assoc]
attribute [go_sem] ltBL_append ltB_pls ltB_is ltB_lbs decLb_cells decIs1_two
def bdP (k : Nat) (p : Pl) : Prop := -(140 * (k : Int)) ≤ p.1 ∧ p.1 ≤ 140 * (k : Int) ∧ -(140 * (k : Int)) ≤ p.2 ∧ p.2 ≤ 140 * (k : Int)
theorem ends_facts {a b w t l : Int} (ha : -1000 ≤ a ∧ a ≤ 1000) (hb : -1000 ≤ b ∧ b ≤ 1000) (hw : -1000 ≤ w ∧ w ≤ 1000) (ht : -1000 ≤ t ∧ t ≤ 1000) (h1 : 1 ≤ l) (h2 : l ≤ 20) :
    sumW 0 [w, t] = w + t ∧ IntKind.i64.wrap ((w + t).tmod 8 + 8) = (w + t).tmod 8 + 8 ∧ ((w + t).tmod 8 + 8).tmod 8 = (w + t) % 8 ∧ 0 ≤ (w + t) % 8 ∧ (w + t) % 8 < 8 ∧
    IntKind.i64.wrap (l * (stepG ((w + t) % 8)).1) = l * (stepG ((w + t) % 8)).1 ∧ IntKind.i64.wrap (l * (stepG ((w + t) % 8)).2) = l * (stepG ((w + t) % 8)).2 ∧
    sumW 0 [a, l * (stepG ((w + t) % 8)).1] = a + l * (stepG ((w + t) % 8)).1 ∧ sumW 0 [b, l * (stepG ((w + t) % 8)).2] = b + l * (stepG ((w + t) % 8)).2 ∧
    (-140 ≤ l * (stepG ((w + t) % 8)).1 ∧ l * (stepG ((w + t) % 8)).1 ≤ 140) ∧ (-140 ≤ l * (stepG ((w + t) % 8)).2 ∧ l * (stepG ((w + t) % 8)).2 ≤ 140) := by
  have hm8 := tmod8_bd (w + t)
  obtain ⟨v1, v2⟩ := step_vals ((w + t) % 8)
  have m1 := mul_step (l := l) (by omega) (by omega) v1
  have m2 := mul_step (l := l) (by omega) (by omega) v2
  exact ⟨sumW_two (by omega) (by omega) (by omega) (by omega), wrap_id (by omega) (by omega), tmod8 _, by omega, by omega, wrap_id (by omega) (by omega), wrap_id (by omega) (by omega),
    sumW_two (by omega) (by omega) (by omega) (by omega), sumW_two (by omega) (by omega) (by omega) (by omega), m1, m2⟩
theorem ends_87 (s : Int) (z zp : Z) (ls : List Lb) (ps : List Int) (hz : z = .n → ls = []) (hp : zp = .n → ps = []) (hf : figB s ls = true) (hpo : poseG ls ps = true) :
    CallOk Tryz.prog 87 [.agg [ii s, .sl z (ls.map encLb)], .sl zp (ps.map ii)] [] (.ret (.sl .a ((ends s ls ps).map encPl))) [] := by
  refine CallOk.ofF hTT Tryz.func87 rfl rfl ?_
  obtain ⟨s0, s7, l1, l5, hlb⟩ := fig_limbs hf
  obtain ⟨hl, hpa⟩ := pose_at hpo
  repeat (first | (with_reducible (first | apply wA | apply wB | apply wC | apply wD | apply wE | apply wF | apply wG | apply wH | apply wI | apply wJ | apply wK | apply wL | apply wM | apply wN | apply wO | apply wP | apply wQ rfl | apply wR | apply wS | apply wT | apply wU)) | ((with_reducible (first | apply wV | apply wW | apply wX | (apply wY [] hTT cfA_ok noM_ok mixed; (focus kernel_rfl)))); (focus (simp only [Tryz.f87, cfA, c128, go_sem]; rfl))) | (with_reducible refine wZ hTT cfA_ok noM_ok ?_) | (with_reducible refine wa ?_; refine And.intro ?_ ?_; (focus kernel_rfl)))
  refine RunQ.keep [15, 14, 13, 6, 5, 1, 2] (by simp only [go_sem]; rfl) ?_
  refine RunQ.nilRow 6 3 1 (by simp only [go_sem]) (by simp only [go_sem]; rfl) (by simp only [go_sem]; rfl) ?_
  refine RunQ.nilRow 5 133 2 (by simp only [go_sem]) (by simp only [go_sem]; rfl) (by simp only [go_sem]; rfl) ?_
  refine RunQ.loop (fun i s' => ∃ (out : List Pl) (tr : List Int), endsG s ls ps [] [] = endsG s (ls.drop i) (ps.drop i) out tr ∧ out.length = i ∧ tr.length = i ∧ (∀ p ∈ out, bdP i p) ∧ (∀ t ∈ tr, -(4 * (i : Int)) ≤ t ∧ t ≤ 7 + 4 * (i : Int)) ∧
    s' = ⟨[(15, ii i), (14, ii ls.length), (13, .sl z (ls.map encLb)), (6, .ms 1 i), (5, .ms 2 i), (2, .bp 0 0), (1, .sl zp (ps.map ii))], 76, [.var [ii s, .sl z (ls.map encLb)] false, .row (decide (i = 0)) 3 1 (tr.map ii) false, .row (decide (i = 0)) 133 2 (out.map encPl) false]⟩)
    ls.length ⟨[], [], rfl, rfl, rfl, (fun p h => by cases h), (fun t h => by cases h), rfl⟩ ?_
  rintro i _ hi ⟨out, tr, hm, ho, ht, hbo, hbt, rfl⟩
  by_cases hlt : i < ls.length
  · obtain ⟨x, hx⟩ : ∃ x, ls[i]? = some x := ⟨_, List.getElem?_eq_getElem hlt⟩
    obtain ⟨t, htt⟩ : ∃ t, ps[i]? = some t := ⟨_, List.getElem?_eq_getElem (by omega)⟩
    have hx' : (ls.map encLb)[i]? = some (.agg [ii x.p, ii x.l, ii x.lo, ii x.hi, ii x.w]) := map_get hx
    have ht' : (ps.map ii)[i]? = some (ii t) := map_get htt
    have hlt' : (i : Int) < ls.length := by omega
    have hz' : z ≠ .n := fun e => by rw [hz e] at hlt; simp at hlt
    have hzp' : zp ≠ .n := fun e => by rw [hp e] at hl; simp at hl; omega
    have hb := lb_d (hlb i x hx)
    have htb := hpa i x t hx htt
    have e4 : IntKind.i64.wrap ((i : Int) + 1) = ((i + 1 : Nat) : Int) := wrap_id (by omega) (by omega)
    have r1 : (i + 1) * 8 ≤ 140737488355328 := by omega
    have r2 : i + 1 ≤ maxLen := by unfold maxLen; omega
    have r3 : (i + 1) * 16 ≤ 140737488355328 := by omega
    have hd1 : decide (i + 1 = 0) = false := by simp
    have fin : ∀ (a b w : Int), fromG s x out tr = ((a, b), w) → (-(140 * (i : Int)) ≤ a ∧ a ≤ 140 * (i : Int) ∧ -(140 * (i : Int)) ≤ b ∧ b ≤ 140 * (i : Int)) → (-(4 * (i : Int)) ≤ w ∧ w ≤ 7 + 4 * (i : Int)) →
        turnG s x out tr t = w + t ∧ endG s x out tr t = (a + x.l * (stepG ((w + t) % 8)).1, b + x.l * (stepG ((w + t) % 8)).2) ∧
        endsG s ls ps [] [] = endsG s (ls.drop (i + 1)) (ps.drop (i + 1)) (out ++ [endG s x out tr t]) (tr ++ [turnG s x out tr t]) ∧ (out ++ [endG s x out tr t]).length = i + 1 ∧ (tr ++ [turnG s x out tr t]).length = i + 1 ∧
        (∀ p ∈ out ++ [endG s x out tr t], bdP (i + 1) p) ∧ (∀ t' ∈ tr ++ [turnG s x out tr t], -(4 * ((i + 1 : Nat) : Int)) ≤ t' ∧ t' ≤ 7 + 4 * ((i + 1 : Nat) : Int)) := by
      intro a b w hfr hab hw
      have htn : turnG s x out tr t = w + t := by unfold turnG; rw [hfr]
      have hen : endG s x out tr t = (a + x.l * (stepG ((w + t) % 8)).1, b + x.l * (stepG ((w + t) % 8)).2) := by unfold endG; rw [htn, hfr]
      obtain ⟨_, _, _, _, _, _, _, _, _, m1, m2⟩ := ends_facts (a := a) (b := b) (w := w) (t := t) (l := x.l) (by omega) (by omega) (by omega) (by omega) (by omega) (by omega)
      refine ⟨htn, hen, ?_, by simp [ho], by simp [ht], fun p h => ?_, fun t' h => ?_⟩
      · rw [hm, drop_get hx, drop_get htt]; rfl
      · rcases List.mem_append.1 h with h | h
        · have := hbo p h; unfold bdP at *; omega
        · simp at h; subst h; rw [hen]; unfold bdP; simp only; omega
      · rcases List.mem_append.1 h with h | h
        · have := hbt t' h; omega
        · simp at h; subst h; rw [htn]; omega
    by_cases hp0 : 0 ≤ x.p
    · have hpi : x.p.toNat < i := by omega
      obtain ⟨q, hq⟩ : ∃ q, out[x.p.toNat]? = some q := ⟨_, List.getElem?_eq_getElem (by omega)⟩
      obtain ⟨w, hw⟩ : ∃ w, tr[x.p.toNat]? = some w := ⟨_, List.getElem?_eq_getElem (by omega)⟩
      have hq' : (out.map encPl)[x.p.toNat]? = some (.agg [ii q.1, ii q.2]) := map_get hq
      have hw' : (tr.map ii)[x.p.toNat]? = some (ii w) := map_get hw
      have hfr : fromG s x out tr = ((q.1, q.2), w) := by unfold fromG; rw [if_pos hp0, List.getD, hq, List.getD, hw]; rfl
      have hqb := hbo q (List.mem_of_getElem? hq)
      have hwb := hbt w (List.mem_of_getElem? hw)
      have hpi' : x.p < (i : Int) := by omega
      have hi0 : ¬ i = 0 := by omega
      obtain ⟨htn, hen, g1, g2, g3, g4, g5⟩ := fin q.1 q.2 w hfr hqb hwb
      unfold bdP at hqb
      obtain ⟨e5, e6, e7, e8, e9, e10, e11, e12, e13, _, _⟩ := ends_facts (a := q.1) (b := q.2) (w := w) (t := t) (l := x.l) (by omega) (by omega) (by omega) (by omega) (by omega) (by omega)
      repeat (first | (with_reducible (first | apply wA | apply wB | apply wC | apply wD | apply wE | apply wF | apply wG | apply wH | apply wI | apply wJ | apply wK | apply wL | apply wM | apply wN | apply wO | apply wP | apply wQ rfl | apply wR | apply wS | apply wT | apply wU)) | ((with_reducible (first | apply wV | apply wW | apply wX | (apply wY [] hTT cfD_ok noM_ok mixed; (focus kernel_rfl)))); (focus (simp only [Tryz.f87, cfD, cfC, cfB, cfA, c128, c130, c131, hx', ht', hlt', hz', hzp', hp0, hq', hw', hpi', hi0, e4, decIs1_two, r1, r2, r3, ho, ht, ge_iff_le, e5, e6, e7, e8, e9, encPl, e10, e11, e12, e13, go_sem]; rfl))) | (with_reducible refine wZ hTT cfD_ok noM_ok ?_) | (with_reducible refine wa ?_; refine And.intro ?_ ?_; (focus kernel_rfl)))
      refine roundQ.t 3 [15, 14, 13, 6, 5, 1, 2] hlt (by simp only [ltB_pls, ltB_is, ltB_lbs, go_sem]) ⟨_, _, g1, g2, g3, g4, g5, by simp only [hd1, hen, htn, List.map_append, encPl, go_sem]⟩
    · have hfr : fromG s x out tr = ((0, 0), s) := if_neg hp0
      obtain ⟨htn, hen, g1, g2, g3, g4, g5⟩ := fin 0 0 s hfr (by omega) (by omega)
      obtain ⟨e5, e6, e7, e8, e9, e10, e11, e12, e13, _, _⟩ := ends_facts (a := 0) (b := 0) (w := s) (t := t) (l := x.l) (by omega) (by omega) (by omega) (by omega) (by omega) (by omega)
      repeat (first | (with_reducible (first | apply wA | apply wB | apply wC | apply wD | apply wE | apply wF | apply wG | apply wH | apply wI | apply wJ | apply wK | apply wL | apply wM | apply wN | apply wO | apply wP | apply wQ rfl | apply wR | apply wS | apply wT | apply wU)) | ((with_reducible (first | apply wV | apply wW | apply wX | (apply wY [] hTT cfD_ok noM_ok mixed; (focus kernel_rfl)))); (focus (simp only [Tryz.f87, cfD, cfC, cfB, cfA, c128, c130, c131, hx', ht', hlt', hz', hzp', hp0, e4, decIs1_two, r1, r2, r3, ho, ht, ge_iff_le, e5, e6, e7, e8, e9, encPl, e10, e11, e12, e13, go_sem]; rfl))) | (with_reducible refine wZ hTT cfD_ok noM_ok ?_) | (with_reducible refine wa ?_; refine And.intro ?_ ?_; (focus kernel_rfl)))
      refine roundQ.t 3 [15, 14, 13, 6, 5, 1, 2] hlt (by simp only [ltB_pls, ltB_is, ltB_lbs, go_sem]) ⟨_, _, g1, g2, g3, g4, g5, by simp only [hd1, hen, htn, List.map_append, encPl, go_sem]⟩
  · have hlt' : ¬ (i : Int) < ls.length := by omega
    have hi0 : ¬ i = 0 := by omega
    repeat (first | (with_reducible (first | apply wA | apply wB | apply wC | apply wD | apply wE | apply wF | apply wG | apply wH | apply wI | apply wJ | apply wK | apply wL | apply wM | apply wN | apply wO | apply wP | apply wQ rfl | apply wR | apply wS | apply wT | apply wU)) | ((with_reducible (first | apply wV | apply wW | apply wX | (apply wY [] hTT cfD_ok noM_ok mixed; (focus kernel_rfl)))); (focus (simp only [Tryz.f87, hlt', go_sem]; rfl))) | (with_reducible refine wZ hTT cfD_ok noM_ok ?_) | (with_reducible refine wa ?_; refine And.intro ?_ ?_; (focus kernel_rfl)))
    refine ⟨rfl, rfl, _, rfl, ?_⟩
    have hen : ends s ls ps = out := by unfold ends; rw [hm, List.drop_eq_nil_of_le (by omega)]; rfl
    rw [hen]
    have := leave_row (sg := [.var [ii s, .sl z (ls.map encLb)] false, .row (decide (i = 0)) 3 1 (tr.map ii) false, .row (decide (i = 0)) 133 2 (out.map encPl) false]) (id := 2) (m := i) rfl (closedL_map (fun _ => rfl) out) (by simp [ho])
    simpa [hi0, tup] using this
end Go.Pv
namespace Go.Pv
open Go Go.RowKit Go.Proofs
set_option maxRecDepth 10000
set_option maxHeartbeats 4000000
theorem set_last {α : Type} (l : List α) (x y : α) : (l ++ [x]).set l.length y = l ++ [y] := by
  rw [List.set_append_right _ _ (Nat.le_refl _)]; simp
theorem get_last {α : Type} (l : List α) (x : α) : (l ++ [x])[l.length]? = some x := by simp
/-- What the body of try comes to, where what it is given comes to an end. -/
theorem try_core {g : FuncId} {fa cap : List PV} {sg sg2 : List Box} {v c : PV} (he : Enters Tryz.prog g) (hc : CallOk Tryz.prog g (fa ++ ([] ++ cap)) (sg ++ [.var [ii 0] false]) (.ret v) sg2) (hsl : SameLoops (sg ++ [.var [ii 0] false]) sg2)
    (hb : sg2[sg.length]? = some (.var [c] false)) : CallOk Tryz.prog 93 [.fn (.func g) fa cap] sg (.ret (ii 0)) (sg2.set sg.length (.var [ii 0] false)) := by
  have hsl0 : SameLoops sg sg2 := by
    refine ⟨fun id lr h => hsl.1 id lr (by rw [List.getElem?_append_left (List.getElem?_eq_some_iff.1 h).1]; exact h), fun id lr h => ?_⟩
    obtain ⟨lr', h'⟩ := hsl.2 id lr h
    by_cases hid : id < sg.length
    · rw [List.getElem?_append_left hid] at h'; exact ⟨lr', h'⟩
    · rw [List.getElem?_append_right (by omega)] at h'
      have := (List.getElem?_eq_some_iff.1 h').1
      simp at this
      have e : id - sg.length = 0 := by omega
      rw [e] at h'
      cases h'
  have hlt : sg.length < sg2.length := (List.getElem?_eq_some_iff.1 hb).1
  have hc1 : PRun Tryz.prog (.region 0 #[{ dst := some 2, op := .alloc 31, type := 0, pos := "joint.go:198", after := #[], guard := none }] false) ⟨argT 0 [.fn (.func g) fa cap], 6, sg⟩ .normal ⟨[(2, .bp sg.length 0), (0, .fn (.func g) fa cap)], 6, sg ++ [.var [ii 0] false]⟩ :=
    PRun.regionL hTT (by simp only [plainO, set_last, go_sem])
  refine CallOk.deferring (st1 := ⟨[(2, .bp sg.length 0), (0, .fn (.func g) fa cap)], 6, sg ++ [.var [ii 0] false]⟩) (st2 := ⟨[(5, v), (4, .fn (.func g) fa cap), (3, .fn (.func 139) [] [.bp sg.length 0]), (2, .bp sg.length 0), (0, .fn (.func g) fa cap)], 6, sg2.set sg.length (.var [ii 0] false)⟩) (m := .ret)
    (st3 := ⟨[(1, .nili), (7, .bool true), (5, .nili), (0, .bp sg.length 0)], 14, sg2.set sg.length (.var [ii 0] false)⟩) (idv := sg.length) hTT Tryz.func93 rfl Tryz.func139 rfl rfl (by decide) (ent Tryz.func139 rfl) hc1 rfl (of_decide_eq_true rfl) ?_ ?_ ?_ ?_ ?_
  · refine Run.seq (st1 := ⟨[(5, v), (4, .fn (.func g) fa cap), (3, .fn (.func 139) [] [.bp sg.length 0]), (2, .bp sg.length 0), (0, .fn (.func g) fa cap)], 6, sg2⟩) ?_ (Run.seq (st1 := ⟨[(5, v), (4, .fn (.func g) fa cap), (3, .fn (.func 139) [] [.bp sg.length 0]), (2, .bp sg.length 0), (0, .fn (.func g) fa cap)], 6, sg2.set sg.length (.var [ii 0] false)⟩) ?_ (Run.ret _))
    · refine Run.region ?_
      show RunOps _ _ [0, 1] _ _ _
      refine RunOps.cons (st1 := ⟨[(4, .fn (.func g) fa cap), (3, .fn (.func 139) [] [.bp sg.length 0]), (2, .bp sg.length 0), (0, .fn (.func g) fa cap)], 6, sg ++ [.var [ii 0] false]⟩) rfl rfl ?_ (RunOps.cons rfl rfl ?_ (RunOps.nil _ _))
      · exact RunOp.eval hTT (fun d e => by cases e; exact of_decide_eq_true rfl) (v := .fn (.func g) fa cap) (ef := none) rfl rfl
      · exact RunOp.call (c := { callee := .value (.tmp 4), args := #[], argTypes := #[] }) rfl rfl (fun d e => by cases e; exact of_decide_eq_true rfl) rfl rfl he hc hsl
    · refine Run.region ?_
      show RunOps _ _ [0] _ _ _
      refine RunOps.cons rfl rfl ?_ (RunOps.nil _ _)
      have := RunOp.eval (P := Tryz.prog) (o := { dst := none, op := .store 31 (.tmp 2) (.const (.int .i64 0)), type := 0, pos := "joint.go:211", after := #[], guard := none }) (st := ⟨[(5, v), (4, .fn (.func g) fa cap), (3, .fn (.func 139) [] [.bp sg.length 0]), (2, .bp sg.length 0), (0, .fn (.func g) fa cap)], 6, sg2⟩) hTT (fun d e => by cases e) (v := .tuple []) (ef := some (sg.length, .var [ii 0] false)) (by simp only [hb, go_sem]) rfl
      exact this
  · refine PRun.block (out := .normal) (PRun.seq (st1 := ⟨[(7, .bool true), (5, .nili), (0, .bp sg.length 0)], 14, sg2.set sg.length (.var [ii 0] false)⟩) (PRun.regionL hTT rfl) (PRun.cond (b := true) rfl (PRun.regionL hTT rfl)))
  · have : (sg2.set sg.length (.var [ii 0] false))[sg.length]? = some (.var [ii 0] false) := List.getElem?_set_self hlt
    simp only [Tryz.f93, this, go_sem]
  · refine ⟨fun id lr h => ?_, fun id lr h => ?_⟩
    · exact (fun ⟨lr', h'⟩ => ⟨lr', (set_loop hb rfl rfl id lr').2 h'⟩) (hsl0.1 id lr h)
    · exact hsl0.2 id lr ((set_loop hb rfl rfl id lr).1 h)
  · show sg.length < (sg ++ [_]).length
    simp
end Go.Pv
namespace Go.Pv
open Go Go.RowKit Go.Proofs
set_option maxRecDepth 10000
set_option maxHeartbeats 4000000
def zero5 : List PV := [ii 0, ii 0, ii 0, ii 0, ii 0]
theorem rowX_app {sg : List Box} {x : PV} {ys : List PV} (h : rowX sg x = some ys) (b : List Box) : rowX (sg ++ b) x = some ys := by
  unfold rowX at h ⊢
  split at h
  · exact h
  · split at h <;> try (cases h; done)
    rename_i hb
    rw [List.getElem?_append_left (List.getElem?_eq_some_iff.1 hb).1, hb]
    exact h
  · cases h
theorem set_mid {α : Type} (l : List α) (x y z : α) : (l ++ [x, y]).set (l.length + 1) z = l ++ [x, z] := by
  rw [List.set_append_right _ _ (by omega), show l.length + 1 - l.length = 1 by omega]; rfl
theorem set_fst {α : Type} (l : List α) (x y z : α) : (l ++ [x, y]).set l.length z = l ++ [z, y] := by
  rw [List.set_append_right _ _ (Nat.le_refl _), Nat.sub_self]; rfl
theorem get_fst {α : Type} (l : List α) (x y : α) : (l ++ [x, y])[l.length]? = some x := by simp
theorem get_mid {α : Type} (l : List α) (x y : α) : (l ++ [x, y])[l.length + 1]? = some y := by simp
theorem keyOf_99 {x : PV} {ys : List PV} {sg : List Box} (hx : rowX sg x = some ys) (hy : (ys.all fun y => y.cells.length == 1) = true) (h5 : ys.length ≤ 5) {a b c d e : PV}
    (hS : splice zero5 0 (flat ys) = [a, b, c, d, e]) (hsl : SameLoops sg (sg ++ [.var [a, b, c, d, e] false, .var [a, b, c, d, e] false])) :
    CallOk Tryz.prog 99 [x] sg (.ret (.agg [a, b, c, d, e])) (sg ++ [.var [a, b, c, d, e] false, .var [a, b, c, d, e] false]) := by
  refine CallOk.plain (st' := ⟨[(7, .agg [a, b, c, d, e]), (3, .bp (sg.length + 1) 0), (2, .bp sg.length 0), (0, x)], 8, _⟩) hTT Tryz.func99 rfl rfl (PRun.seq (st1 := ⟨[(2, .bp sg.length 0), (0, x)], 8, sg ++ [.var zero5 false]⟩) ?_
    (PRun.seq (st1 := ⟨[(3, .bp (sg.length + 1) 0), (2, .bp sg.length 0), (0, x)], 8, sg ++ [.var zero5 false, .var zero5 false]⟩) ?_
    (PRun.seq (st1 := ⟨[(3, .bp (sg.length + 1) 0), (2, .bp sg.length 0), (0, x)], 8, sg ++ [.var zero5 false, .var [a, b, c, d, e] false]⟩) ?_
    (PRun.seq (st1 := ⟨[(7, .agg [a, b, c, d, e]), (3, .bp (sg.length + 1) 0), (2, .bp sg.length 0), (0, x)], 8, _⟩) ?_ (PRun.ret _))))) rfl ?_ hsl
  · exact PRun.regionL hTT (by simp only [plainO, set_last, go_sem]; rfl)
  · exact PRun.regionL hTT (by simp only [plainO, set_last, set_mid, go_sem]; rfl)
  · exact PRun.copyVar (P := Tryz.prog) (T := TT) (st := ⟨[(3, .bp (sg.length + 1) 0), (2, .bp sg.length 0), (0, x)], 8, sg ++ [.var zero5 false, .var zero5 false]⟩) (d1 := 4) (d2 := 5) (d3 := 6) (p := 3) (q := 0) (ta := 148) (ts := 25) (e := 3) (n := 5) (id := sg.length + 1) (x := x) (cs := zero5) (ys := ys) hTT rfl rfl (get_mid _ _ _)
      (rowX_app hx _) rfl rfl rfl rfl hy h5 (Nat.le_refl _) rfl rfl rfl (of_decide_eq_true rfl) (of_decide_eq_true rfl) (by decide) (by rw [set_mid, hS])
  · refine PRun.regionL hTT ?_
    simp only [plainO, set_last, set_mid, set_fst, get_mid, get_fst, zero5, go_sem]
  · simp only [Tryz.f99, get_fst, go_sem]
/-- keyOf for the evaluator. -/
def c99 : List PV → List Box → Option (PRes × List Box)
  | [x], sg => match rowX sg x with
    | some ys => match splice zero5 0 (flat ys) with
      | [a, b, c, d, e] =>
        let sg1 := sg ++ [.var [a, b, c, d, e] false, .var [a, b, c, d, e] false]
        let r := leaveC sg.length (.agg [a, b, c, d, e]) sg1
        if (ys.all fun y => y.cells.length == 1) = true ∧ ys.length ≤ 5 ∧ sameLoopsC sg sg1 = true ∧ sameLoopsC sg r.2 = true then some (.ret r.1, r.2) else none
      | _ => none
    | none => none
  | _, _ => none
theorem c99_ok : ConOk Tryz.prog 99 c99 := fun args sg r sg' h => by
  unfold c99 at h
  split at h <;> try (cases h; done)
  split at h <;> try (cases h; done)
  rename_i hx
  split at h <;> try (cases h; done)
  rename_i hS
  simp only at h
  split at h <;> cases h
  rename_i hc
  exact ⟨ent Tryz.func99 rfl, leaveC_ok (keyOf_99 hx hc.1 hc.2.1 hS (sameLoops_of _ _ hc.2.2.1)), sameLoops_of _ _ hc.2.2.2⟩
end Go.Pv
namespace Go.Pv
open Go Go.RowKit Go.Proofs
set_option maxRecDepth 10000
set_option maxHeartbeats 4000000
def prim0 : CallF → FuncId → List PV → List Box → Option (Option (PRes × List Box)) := fun _ _ _ _ => none
theorem prim0_ok : PrimOk Tryz.prog prim0 := fun cf _ f args sg r sg' h => by cases h
theorem coordinates_134 (x y : Int) : CallOk Tryz.prog 134 [.agg [ii x, ii y]] [] (.ret (.agg [ii x, ii y])) [] :=
  (ev_call hTT noM_ok mixed named prim0_ok (k := 60) (by kernel_rfl)).2.1
theorem within_170 (x a b : Int) : CallOk Tryz.prog 170 [ii x, .agg [ii a, ii b]] [] (.ret (.bool (inB x a b))) [] := by
  refine CallOk.of0 hTT Tryz.func170 rfl rfl ?_
  repeat (first | (with_reducible (first | apply wA | apply wB | apply wC | apply wD | apply wE | apply wF | apply wG | apply wH | apply wI | apply wJ | apply wK | apply wL | apply wM | apply wN | apply wO | apply wP | apply wQ rfl | apply wR | apply wS | apply wT | apply wU)) | ((with_reducible (first | apply wV | apply wW | apply wX | (apply wY [] hTT cfA_ok noM_ok mixed; (focus kernel_rfl)))); (focus (simp only [Tryz.f170, cfA, c128, go_sem]; rfl))) | (with_reducible refine wZ hTT cfA_ok noM_ok ?_) | (with_reducible refine wa ?_; refine And.intro ?_ ?_; (focus kernel_rfl)))
  exact ⟨rfl, rfl, _, rfl, rfl⟩
def c134 : List PV → List Box → Option (PRes × List Box)
  | [.agg [.int .i64 x, .int .i64 y]], sg => some (.ret (.agg [ii x, ii y]), sg)
  | _, _ => none
theorem c134_ok : ConOk Tryz.prog 134 c134 := ConOk.of0 (ent Tryz.func134 rfl) fun args sg r sg' h => by
  unfold c134 at h
  split at h <;> cases h
  exact ⟨_, rfl, rfl, rfl, coordinates_134 _ _⟩
def c170 : List PV → List Box → Option (PRes × List Box)
  | [.int .i64 x, .agg [.int .i64 a, .int .i64 b]], sg => some (.ret (.bool (inB x a b)), sg)
  | _, _ => none
theorem c170_ok : ConOk Tryz.prog 170 c170 := ConOk.of0 (ent Tryz.func170 rfl) fun args sg r sg' h => by
  unfold c170 at h
  split at h <;> cases h
  exact ⟨_, rfl, rfl, rfl, within_170 _ _ _⟩
def cfE1 : CallF := cfAdd (cfAdd cfD 134 c134) 170 c170
theorem cfE1_ok : CallFOk Tryz.prog cfE1 := cfAdd_ok (cfAdd_ok cfD_ok c134_ok) c170_ok
theorem wrap1 : IntKind.i64.wrap 1 = 1 := by decide
theorem wrap2 : IntKind.i64.wrap 2 = 2 := by decide
structure Fld where
  a : Int
  b : Int
  c : Int
  d : Int
def lieG (p : Pl) (f : Fld) : Bool := inB p.1 f.a f.b && inB p.2 f.c f.d
def encFld (f : Fld) : PV := .agg [ii f.a, ii f.b, ii f.c, ii f.d]
theorem lies_143 (p : Pl) (f : Fld) : CallOk Tryz.prog 143 [encPl p, encFld f] [] (.ret (.bool (lieG p f))) [] := by
  refine CallOk.of0 hTT Tryz.func143 rfl rfl ?_
  unfold lieG
  repeat (first | (with_reducible (first | apply wA | apply wB | apply wC | apply wD | apply wE | apply wF | apply wG | apply wH | apply wI | apply wJ | apply wK | apply wL | apply wM | apply wN | apply wO | apply wP | apply wQ rfl | apply wR | apply wS | apply wT | apply wU)) | ((with_reducible (first | apply wV | apply wW | apply wX | (apply wY [] hTT cfE1_ok noM_ok mixed; (focus kernel_rfl)))); (focus (simp only [Tryz.f143, cfE1, cfA, c134, c170, encPl, encFld, go_sem]; rfl))) | (with_reducible refine wZ hTT cfE1_ok noM_ok ?_) | (with_reducible refine wa ?_; refine And.intro ?_ ?_; (focus kernel_rfl)))
  refine RunQ.keep [15, 14, 5] (by simp only [go_sem]; rfl) ?_
  refine RunQ.loop (fun i s' => (1 ≤ i → inB p.1 f.a f.b = true) ∧ (2 ≤ i → inB p.2 f.c f.d = true) ∧ s' = ⟨[(15, ii i), (14, .agg [ii p.1, ii p.2]), (5, .bp 2 0)], 26, [.var [ii p.1, ii p.2] false, .var [ii f.a, ii f.b, ii f.c, ii f.d] false, .var [ii f.a, ii f.b, ii f.c, ii f.d] false]⟩) 2 ⟨by omega, by omega, rfl⟩ ?_
  rintro i _ hi ⟨h1, h2, rfl⟩
  rcases (show i = 0 ∨ i = 1 ∨ i = 2 by omega) with rfl | rfl | rfl
  · cases a1 : inB p.1 f.a f.b
    · repeat (first | (with_reducible (first | apply wA | apply wB | apply wC | apply wD | apply wE | apply wF | apply wG | apply wH | apply wI | apply wJ | apply wK | apply wL | apply wM | apply wN | apply wO | apply wP | apply wQ rfl | apply wR | apply wS | apply wT | apply wU)) | ((with_reducible (first | apply wV | apply wW | apply wX | (apply wY [] hTT cfE1_ok noM_ok mixed; (focus kernel_rfl)))); (focus (simp only [Tryz.f143, cfE1, cfD, cfC, cfB, cfA, c134, c170, a1, Int.cast_ofNat_Int, wrap1, wrap2, go_sem]; rfl))) | (with_reducible refine wZ hTT cfE1_ok noM_ok ?_) | (with_reducible refine wa ?_; refine And.intro ?_ ?_; (focus kernel_rfl)))
      exact ⟨rfl, rfl, _, rfl, rfl⟩
    · repeat (first | (with_reducible (first | apply wA | apply wB | apply wC | apply wD | apply wE | apply wF | apply wG | apply wH | apply wI | apply wJ | apply wK | apply wL | apply wM | apply wN | apply wO | apply wP | apply wQ rfl | apply wR | apply wS | apply wT | apply wU)) | ((with_reducible (first | apply wV | apply wW | apply wX | (apply wY [] hTT cfE1_ok noM_ok mixed; (focus kernel_rfl)))); (focus (simp only [Tryz.f143, cfE1, cfD, cfC, cfB, cfA, c134, c170, a1, Int.cast_ofNat_Int, wrap1, wrap2, go_sem]; rfl))) | (with_reducible refine wZ hTT cfE1_ok noM_ok ?_) | (with_reducible refine wa ?_; refine And.intro ?_ ?_; (focus kernel_rfl)))
      refine roundQ.t 3 [15, 14, 5] (by decide) (by simp only [Int.cast_ofNat_Int, go_sem]) ⟨fun _ => rfl, fun h => absurd h (by decide), by simp only [Int.cast_ofNat_Int, wrap1, wrap2, go_sem]⟩
  · cases a2 : inB p.2 f.c f.d
    · repeat (first | (with_reducible (first | apply wA | apply wB | apply wC | apply wD | apply wE | apply wF | apply wG | apply wH | apply wI | apply wJ | apply wK | apply wL | apply wM | apply wN | apply wO | apply wP | apply wQ rfl | apply wR | apply wS | apply wT | apply wU)) | ((with_reducible (first | apply wV | apply wW | apply wX | (apply wY [] hTT cfE1_ok noM_ok mixed; (focus kernel_rfl)))); (focus (simp only [Tryz.f143, cfE1, cfD, cfC, cfB, cfA, c134, c170, a2, Int.cast_ofNat_Int, wrap1, wrap2, go_sem]; rfl))) | (with_reducible refine wZ hTT cfE1_ok noM_ok ?_) | (with_reducible refine wa ?_; refine And.intro ?_ ?_; (focus kernel_rfl)))
      rw [h1 (by decide)]
      exact ⟨rfl, rfl, _, rfl, rfl⟩
    · repeat (first | (with_reducible (first | apply wA | apply wB | apply wC | apply wD | apply wE | apply wF | apply wG | apply wH | apply wI | apply wJ | apply wK | apply wL | apply wM | apply wN | apply wO | apply wP | apply wQ rfl | apply wR | apply wS | apply wT | apply wU)) | ((with_reducible (first | apply wV | apply wW | apply wX | (apply wY [] hTT cfE1_ok noM_ok mixed; (focus kernel_rfl)))); (focus (simp only [Tryz.f143, cfE1, cfD, cfC, cfB, cfA, c134, c170, a2, Int.cast_ofNat_Int, wrap1, wrap2, go_sem]; rfl))) | (with_reducible refine wZ hTT cfE1_ok noM_ok ?_) | (with_reducible refine wa ?_; refine And.intro ?_ ?_; (focus kernel_rfl)))
      refine roundQ.t 3 [15, 14, 5] (by decide) (by simp only [Int.cast_ofNat_Int, go_sem]) ⟨fun _ => h1 (by decide), fun _ => rfl, by simp only [Int.cast_ofNat_Int, wrap1, wrap2, go_sem]⟩
  · repeat (first | (with_reducible (first | apply wA | apply wB | apply wC | apply wD | apply wE | apply wF | apply wG | apply wH | apply wI | apply wJ | apply wK | apply wL | apply wM | apply wN | apply wO | apply wP | apply wQ rfl | apply wR | apply wS | apply wT | apply wU)) | ((with_reducible (first | apply wV | apply wW | apply wX | (apply wY [] hTT cfE1_ok noM_ok mixed; (focus kernel_rfl)))); (focus (simp only [Tryz.f143, cfE1, cfA, c134, c170, Int.cast_ofNat_Int, wrap1, wrap2, go_sem]; rfl))) | (with_reducible refine wZ hTT cfE1_ok noM_ok ?_) | (with_reducible refine wa ?_; refine And.intro ?_ ?_; (focus kernel_rfl)))
    rw [h1 (by decide), h2 (by decide)]
    exact ⟨rfl, rfl, _, rfl, rfl⟩
def decFld : PV → Option Fld
  | .agg [.int .i64 a, .int .i64 b, .int .i64 c, .int .i64 d] => some ⟨a, b, c, d⟩
  | _ => none
theorem decFld_inv (x : PV) (f : Fld) (h : decFld x = some f) : x = encFld f := by
  unfold decFld at h
  split at h <;> cases h
  rfl
def c143 : List PV → List Box → Option (PRes × List Box)
  | [p, f], sg => match decPl p, decFld f with
    | some p, some f => some (.ret (.bool (lieG p f)), sg)
    | _, _ => none
  | _, _ => none
theorem c143_ok : ConOk Tryz.prog 143 c143 := ConOk.of0 (ent Tryz.func143 rfl) fun args sg r sg' h => by
  unfold c143 at h
  split at h <;> try (cases h; done)
  split at h <;> cases h
  rename_i p f hp hf
  obtain rfl := decPl_inv _ _ hp
  obtain rfl := decFld_inv _ _ hf
  exact ⟨_, rfl, rfl, rfl, lies_143 _ _⟩
def c87 : List PV → List Box → Option (PRes × List Box)
  | [v, p], sg => match decFig v, decIs1 p with
    | some (s, ls), some ps => if figB s ls = true ∧ poseG ls ps = true then some (.ret (.sl .a ((ends s ls ps).map encPl)), sg) else none
    | _, _ => none
  | _, _ => none
theorem c87_ok : ConOk Tryz.prog 87 c87 := ConOk.of0 (ent Tryz.func87 rfl) fun args sg r sg' h => by
  unfold c87 at h
  split at h <;> try (cases h; done)
  split at h <;> try (cases h; done)
  rename_i h1 h2
  split at h <;> cases h
  rename_i hc
  obtain ⟨z, rfl, hz⟩ := decFig_inv h1
  obtain ⟨zp, rfl, hzp⟩ := decIs1_inv h2
  exact ⟨_, rfl, rfl, by rw [ltBL_cons, ltB_fig, ltBL_cons, ltB_isl]; rfl, ends_87 _ _ _ _ _ hz hzp hc.1 hc.2⟩
end Go.Pv
namespace Go.Pv
open Go Go.RowKit Go.Proofs
set_option maxRecDepth 10000
set_option maxHeartbeats 4000000
def c86 : List PV → List Box → Option (PRes × List Box)
  | [v, p], sg => match decFig v, decIs1 p with
    | some (_, ls), some ps => if ls.length ≤ 1000 then some (.ret (.bool (poseG ls ps)), sg) else none
    | _, _ => none
  | _, _ => none
theorem c86_ok : ConOk Tryz.prog 86 c86 := ConOk.of0 (ent Tryz.func86 rfl) fun args sg r sg' h => by
  unfold c86 at h
  split at h <;> try (cases h; done)
  split at h <;> try (cases h; done)
  rename_i h1 h2
  split at h <;> cases h
  rename_i hc
  obtain ⟨z, rfl, hz⟩ := decFig_inv h1
  obtain ⟨zp, rfl, hzp⟩ := decIs1_inv h2
  exact ⟨_, rfl, rfl, by rw [ltBL_cons, ltB_fig, ltBL_cons, ltB_isl]; rfl, isPose_86 _ _ _ _ _ hz hzp hc⟩
theorem c27_ok : ConOk Tryz.prog 27 c86 := ConOk.of0 (ent Tryz.func27 rfl) fun args sg r sg' h => by
  unfold c86 at h
  split at h <;> try (cases h; done)
  split at h <;> try (cases h; done)
  rename_i h1 h2
  split at h <;> cases h
  rename_i hc
  obtain ⟨z, rfl, hz⟩ := decFig_inv h1
  obtain ⟨zp, rfl, hzp⟩ := decIs1_inv h2
  exact ⟨_, rfl, rfl, by rw [ltBL_cons, ltB_fig, ltBL_cons, ltB_isl]; rfl, Pose_27 _ _ _ _ _ hz hzp hc⟩
def c88 : List PV → List Box → Option (PRes × List Box)
  | [v, .int .i64 n], sg => match decFig v with
    | some (_, ls) => if ls.length ≤ maxLen then some (.ret (.bool (limbG ls n)), sg) else none
    | none => none
  | _, _ => none
theorem c88_ok : ConOk Tryz.prog 88 c88 := ConOk.of0 (ent Tryz.func88 rfl) fun args sg r sg' h => by
  unfold c88 at h
  split at h <;> try (cases h; done)
  split at h <;> try (cases h; done)
  rename_i h1
  split at h <;> cases h
  rename_i hc
  obtain ⟨z, rfl, hz⟩ := decFig_inv h1
  exact ⟨_, rfl, rfl, by rw [ltBL_cons, ltB_fig]; rfl, hasLimb_88 _ _ _ _ hc⟩
theorem c28_ok : ConOk Tryz.prog 28 c88 := ConOk.of0 (ent Tryz.func28 rfl) fun args sg r sg' h => by
  unfold c88 at h
  split at h <;> try (cases h; done)
  split at h <;> try (cases h; done)
  rename_i h1
  split at h <;> cases h
  rename_i hc
  obtain ⟨z, rfl, hz⟩ := decFig_inv h1
  exact ⟨_, rfl, rfl, by rw [ltBL_cons, ltB_fig]; rfl, Limb_28 _ _ _ _ hc⟩
def c25 : List PV → List Box → Option (PRes × List Box)
  | [v], sg => match decFig v with
    | some (_, ls) => some (.ret (.bool (decide (ls.length ≤ 7))), sg)
    | none => none
  | _, _ => none
theorem c25_ok : ConOk Tryz.prog 25 c25 := ConOk.of0 (ent Tryz.func25 rfl) fun args sg r sg' h => by
  unfold c25 at h
  split at h <;> try (cases h; done)
  split at h <;> cases h
  rename_i h1
  obtain ⟨z, rfl, hz⟩ := decFig_inv h1
  exact ⟨_, rfl, rfl, by rw [ltBL_cons, ltB_fig]; rfl, short_25 _ _ _⟩
theorem c26_ok : ConOk Tryz.prog 26 c85 := ConOk.of0 (ent Tryz.func26 rfl) fun args sg r sg' h => by
  unfold c85 at h
  split at h <;> try (cases h; done)
  split at h <;> cases h
  rename_i h1
  obtain ⟨z, rfl, hz⟩ := decFig_inv h1
  exact ⟨_, rfl, rfl, by rw [ltBL_cons, ltB_fig]; rfl, Figure_26 _ _ _ hz⟩
theorem c32_ok : ConOk Tryz.prog 32 c143 := ConOk.of0 (ent Tryz.func32 rfl) fun args sg r sg' h => by
  unfold c143 at h
  split at h <;> try (cases h; done)
  split at h <;> cases h
  rename_i p f hp hf
  obtain rfl := decPl_inv _ _ hp
  obtain rfl := decFld_inv _ _ hf
  exact ⟨_, rfl, rfl, rfl, Lies_32 _ _ _ _ _ _⟩
def decPls1 : PV → Option (List Pl)
  | .sl z es => if zOk z es = true then decL decPl es else none
  | _ => none
theorem decPls1_inv {v : PV} {l : List Pl} (h : decPls1 v = some l) : ∃ z, v = .sl z (l.map encPl) ∧ (z = .n → l = []) := by
  unfold decPls1 at h
  split at h <;> try (cases h; done)
  split at h <;> try (cases h; done)
  rename_i hz
  obtain rfl := decL_inv decPl_inv h
  exact ⟨_, rfl, zOk_map hz⟩
theorem ltB_plsl (z : Z) (l : List Pl) (m : Nat) : (PV.sl z (l.map encPl)).ltB m = true := ltB_pls m l
def c34 : List PV → List Box → Option (PRes × List Box)
  | [a, b], sg => match decPls1 a, decPls1 b with
    | some a, some b => if a.length ≤ maxLen then some (.ret (.bool (decide (a = b))), sg) else none
    | _, _ => none
  | _, _ => none
theorem c34_ok : ConOk Tryz.prog 34 c34 := ConOk.of0 (ent Tryz.func34 rfl) fun args sg r sg' h => by
  unfold c34 at h
  split at h <;> try (cases h; done)
  split at h <;> try (cases h; done)
  rename_i h1 h2
  split at h <;> cases h
  rename_i hc
  obtain ⟨za, rfl, ha⟩ := decPls1_inv h1
  obtain ⟨zb, rfl, hb⟩ := decPls1_inv h2
  exact ⟨_, rfl, rfl, by rw [ltBL_cons, ltB_plsl, ltBL_cons, ltB_plsl]; rfl, SamePlaces_34 _ _ _ _ ha hb hc⟩
def cfF : CallF := cfAdd (cfAdd (cfAdd (cfAdd (cfAdd (cfAdd (cfAdd (cfAdd cfD 85 (conFrz c85)) 86 (conFrz c86)) 27 (conFrz c86)) 88 (conFrz c88)) 28 (conFrz c88)) 26 (conFrz c85)) 32 c143) 34 (conFrz c34)
theorem cfF_ok : CallFOk Tryz.prog cfF := cfAdd_ok (cfAdd_ok (cfAdd_ok (cfAdd_ok (cfAdd_ok (cfAdd_ok (cfAdd_ok (cfAdd_ok cfD_ok c85_ok.frz) c86_ok.frz) c27_ok.frz) c88_ok.frz) c28_ok.frz) c26_ok.frz) c32_ok) c34_ok.frz
end Go.Pv
namespace Go.Pv
open Go Go.RowKit Go.Proofs
set_option maxRecDepth 10000
set_option maxHeartbeats 4000000
theorem ltB_flds (m : Nat) (l : List Fld) : ltBL m (l.map encFld) = true := ltBL_map (fun _ => rfl) l
def cfG : CallF := cfAdd (cfAdd cfF 143 c143) 87 (conFrz c87)
theorem cfG_ok : CallFOk Tryz.prog cfG := cfAdd_ok (cfAdd_ok cfF_ok c143_ok) c87_ok.frz
end Go.Pv
namespace Go.Pv
open Go Go.RowKit Go.Proofs
set_option maxRecDepth 10000
set_option maxHeartbeats 4000000
/-- The box of a stage that a closure names, its other cells whatever. -/
def stgX (x0 x1 x6 x7 : PV) (f : Fld) : Box := .var [x0, x1, ii f.a, ii f.b, ii f.c, ii f.d, x6, x7] false
theorem fineX_142 (p : Pl) (f : Fld) (x0 x1 x6 x7 : PV) (h0 : x0.ltB 1 = true) (h1 : x1.ltB 1 = true) (h6 : x6.ltB 1 = true) (h7 : x7.ltB 1 = true) :
    CallOk Tryz.prog 142 [encPl p, .bp 0 0] [stgX x0 x1 x6 x7 f] (.ret (.bool (!lieG p f))) [stgX x0 x1 x6 x7 f] := by
  refine CallOk.ofS hTT Tryz.func142 rfl rfl ?_
  unfold stgX
  repeat (first | (with_reducible (first | apply wA | apply wB | apply wC | apply wD | apply wE | apply wF | apply wG | apply wH | apply wI | apply wJ | apply wK | apply wL | apply wM | apply wN | apply wO | apply wP | apply wQ rfl | apply wR | apply wS | apply wT | apply wU)) | ((with_reducible (first | apply wV | apply wW | apply wX | (apply wY [] hTT cfG_ok noM_ok mixed; (focus kernel_rfl)))); (focus (simp only [Tryz.f142, cfG, c143, encPl, decPl, decFld, go_sem]; rfl))) | (with_reducible refine wZ hTT cfG_ok noM_ok ?_) | (with_reducible refine wa ?_; refine And.intro ?_ ?_; (focus kernel_rfl)))
  refine ⟨rfl, rfl, _, rfl, ?_⟩
  simp only [h0, h1, h6, h7, ltBL_cons, ltBL_nil, ltB_sl, ltB_int, Box.ltB, go_sem]
def c142 : List PV → List Box → Option (PRes × List Box)
  | [p, .bp 0 0], [.var [x0, x1, .int .i64 a, .int .i64 b, .int .i64 c, .int .i64 d, x6, x7] false] => match decPl p with
    | some p => if x0.ltB 1 = true ∧ x1.ltB 1 = true ∧ x6.ltB 1 = true ∧ x7.ltB 1 = true then some (.ret (.bool (!lieG p ⟨a, b, c, d⟩)), [stgX x0 x1 x6 x7 ⟨a, b, c, d⟩]) else none
    | none => none
  | _, _ => none
theorem c142_ok : ConOk Tryz.prog 142 c142 := fun args sg r sg' h => by
  unfold c142 at h
  split at h <;> try (cases h; done)
  split at h <;> try (cases h; done)
  rename_i hp
  split at h <;> cases h
  rename_i hc
  obtain rfl := decPl_inv _ _ hp
  exact ⟨ent Tryz.func142 rfl, fineX_142 _ _ _ _ _ _ hc.1 hc.2.1 hc.2.2.1 hc.2.2.2, SameLoops.refl _⟩
def cfH : CallF := cfAdd cfG 142 c142
theorem cfH_ok : CallFOk Tryz.prog cfH := cfAdd_ok cfG_ok c142_ok
def offG (f : Fld) : List Pl → Nat → Int
  | [], _ => -1
  | p :: r, i => if lieG p f = true then offG f r (i + 1) else i
theorem offG_cons (f : Fld) (p : Pl) (r : List Pl) (i : Nat) : offG f (p :: r) i = if lieG p f = true then offG f r (i + 1) else i := rfl
theorem index_169 (z : Z) (l : List Pl) (hz : z = .n → l = []) (hs : l.length ≤ maxLen) (f : Fld) (x0 x1 x6 x7 : PV) (h0 : x0.ltB 1 = true) (h1 : x1.ltB 1 = true) (h6 : x6.ltB 1 = true) (h7 : x7.ltB 1 = true) :
    CallOk Tryz.prog 169 [.sl z (l.map encPl), .fn (.func 142) [] [.bp 0 0]] [stgX x0 x1 x6 x7 f] (.ret (ii (offG f l 0))) [stgX x0 x1 x6 x7 f] := by
  refine CallOk.ofS hTT Tryz.func169 rfl rfl ?_
  unfold maxLen at hs
  unfold stgX
  repeat (first | (with_reducible (first | apply wA | apply wB | apply wC | apply wD | apply wE | apply wF | apply wG | apply wH | apply wI | apply wJ | apply wK | apply wL | apply wM | apply wN | apply wO | apply wP | apply wQ rfl | apply wR | apply wS | apply wT | apply wU)) | ((with_reducible (first | apply wV | apply wW | apply wX | (apply wY [] hTT cfH_ok noM_ok mixed; (focus kernel_rfl)))); (focus (simp only [Tryz.f169, cfH, go_sem]; rfl))) | (with_reducible refine wZ hTT cfH_ok noM_ok ?_) | (with_reducible refine wa ?_; refine And.intro ?_ ?_; (focus kernel_rfl)))
  refine RunQ.keep [8, 7, 6, 4, 0, 1] (by simp only [go_sem]; rfl) ?_
  refine RunQ.loop (fun i s' => offG f l 0 = offG f (l.drop i) i ∧ s' = ⟨[(8, ii i), (7, ii l.length), (6, .sl z (l.map encPl)), (4, ii 0), (0, .sl z (l.map encPl)), (1, .fn (.func 142) [] [.bp 0 0])], 19, [.var [x0, x1, ii f.a, ii f.b, ii f.c, ii f.d, x6, x7] false]⟩) l.length ⟨rfl, rfl⟩ ?_
  rintro i _ hi ⟨hm, rfl⟩
  by_cases hlt : i < l.length
  · obtain ⟨p, hp⟩ : ∃ p, l[i]? = some p := ⟨_, List.getElem?_eq_getElem hlt⟩
    have hp' : (l.map encPl)[i]? = some (.agg [ii p.1, ii p.2]) := map_get hp
    have hlt' : (i : Int) < l.length := by omega
    have hz' : z ≠ .n := fun e => by rw [hz e] at hlt; simp at hlt
    have e4 : IntKind.i64.wrap ((i : Int) + 1) = ((i + 1 : Nat) : Int) := wrap_id (by omega) (by omega)
    rw [drop_get hp, offG_cons] at hm
    cases hlie : lieG p f
    · rw [hlie] at hm
      have hlie' : lieG (p.1, p.2) ⟨f.a, f.b, f.c, f.d⟩ = false := hlie
      repeat (first | (with_reducible (first | apply wA | apply wB | apply wC | apply wD | apply wE | apply wF | apply wG | apply wH | apply wI | apply wJ | apply wK | apply wL | apply wM | apply wN | apply wO | apply wP | apply wQ rfl | apply wR | apply wS | apply wT | apply wU)) | ((with_reducible (first | apply wV | apply wW | apply wX | (apply wY [] hTT cfH_ok noM_ok mixed; (focus kernel_rfl)))); (focus (simp only [Tryz.f169, cfH, c142, decPl, h0, h1, h6, h7, stgX, hp', hlt', hz', e4, hlie', go_sem]; rfl))) | (with_reducible refine wZ hTT cfH_ok noM_ok ?_) | (with_reducible refine wa ?_; refine And.intro ?_ ?_; (focus kernel_rfl)))
      refine ⟨rfl, rfl, _, rfl, ?_⟩
      rw [hm]
      simp only [h0, h1, h6, h7, ltBL_cons, ltBL_nil, ltB_sl, ltB_int, Box.ltB, go_sem]
    · rw [hlie] at hm
      have hlie' : lieG (p.1, p.2) ⟨f.a, f.b, f.c, f.d⟩ = true := hlie
      repeat (first | (with_reducible (first | apply wA | apply wB | apply wC | apply wD | apply wE | apply wF | apply wG | apply wH | apply wI | apply wJ | apply wK | apply wL | apply wM | apply wN | apply wO | apply wP | apply wQ rfl | apply wR | apply wS | apply wT | apply wU)) | ((with_reducible (first | apply wV | apply wW | apply wX | (apply wY [] hTT cfH_ok noM_ok mixed; (focus kernel_rfl)))); (focus (simp only [Tryz.f169, cfH, c142, decPl, h0, h1, h6, h7, stgX, hp', hlt', hz', e4, hlie', go_sem]; rfl))) | (with_reducible refine wZ hTT cfH_ok noM_ok ?_) | (with_reducible refine wa ?_; refine And.intro ?_ ?_; (focus kernel_rfl)))
      refine roundQ.t 1 [8, 7, 6, 4, 0, 1] hlt (by simp only [ltB_pls, h0, h1, h6, h7, ltBL_cons, ltBL_nil, ltB_sl, ltB_int, Box.ltB, go_sem]) ⟨by rw [hm]; rfl, by simp only [go_sem]⟩
  · have hlt' : ¬ (i : Int) < l.length := by omega
    repeat (first | (with_reducible (first | apply wA | apply wB | apply wC | apply wD | apply wE | apply wF | apply wG | apply wH | apply wI | apply wJ | apply wK | apply wL | apply wM | apply wN | apply wO | apply wP | apply wQ rfl | apply wR | apply wS | apply wT | apply wU)) | ((with_reducible (first | apply wV | apply wW | apply wX | (apply wY [] hTT cfH_ok noM_ok mixed; (focus kernel_rfl)))); (focus (simp only [Tryz.f169, hlt', go_sem]; rfl))) | (with_reducible refine wZ hTT cfH_ok noM_ok ?_) | (with_reducible refine wa ?_; refine And.intro ?_ ?_; (focus kernel_rfl)))
    refine ⟨rfl, rfl, _, rfl, ?_⟩
    rw [hm, List.drop_eq_nil_of_le (by omega)]
    simp only [h0, h1, h6, h7, ltBL_cons, ltBL_nil, ltB_sl, ltB_int, Box.ltB, go_sem]
    rfl
end Go.Pv
namespace Go.Pv
open Go Go.RowKit Go.Proofs
set_option maxRecDepth 10000
set_option maxHeartbeats 4000000
def c169 : List PV → List Box → Option (PRes × List Box)
  | [v, .fn (.func 142) [] [.bp 0 0]], [.var [x0, x1, .int .i64 a, .int .i64 b, .int .i64 c, .int .i64 d, x6, x7] false] => match decPls1 v with
    | some l => if x0.ltB 1 = true ∧ x1.ltB 1 = true ∧ x6.ltB 1 = true ∧ x7.ltB 1 = true ∧ l.length ≤ maxLen then some (.ret (ii (offG ⟨a, b, c, d⟩ l 0)), [stgX x0 x1 x6 x7 ⟨a, b, c, d⟩]) else none
    | none => none
  | _, _ => none
theorem c169_ok : ConOk Tryz.prog 169 c169 := fun args sg r sg' h => by
  unfold c169 at h
  split at h <;> try (cases h; done)
  split at h <;> try (cases h; done)
  rename_i hp
  split at h <;> cases h
  rename_i hc
  obtain ⟨z, rfl, hz⟩ := decPls1_inv hp
  exact ⟨ent Tryz.func169 rfl, index_169 _ _ hz hc.2.2.2.2 _ _ _ _ _ hc.1 hc.2.1 hc.2.2.1 hc.2.2.2.1, SameLoops.refl _⟩
def cfI : CallF := cfAdd cfG 169 c169
theorem cfI_ok : CallFOk Tryz.prog cfI := cfAdd_ok cfG_ok c169_ok
theorem decPls1_enc {z : Z} {l : List Pl} (hz : zOk z (l.map encPl) = true) : decPls1 (.sl z (l.map encPl)) = some l := by
  show (if zOk z (l.map encPl) = true then decL decPl (l.map encPl) else none) = some l
  rw [if_pos hz, decL_map decPl_enc]
theorem contains_141 (z : Z) (l : List Pl) (hz : z = .n → l = []) (hzo : zOk z (l.map encPl) = true) (hs : l.length ≤ maxLen) (f : Fld) (x0 x1 x6 x7 : PV) (h0 : x0.ltB 1 = true) (h1 : x1.ltB 1 = true) (h6 : x6.ltB 1 = true) (h7 : x7.ltB 1 = true) :
    CallOk Tryz.prog 141 [.sl z (l.map encPl), .fn (.func 142) [] [.bp 0 0]] [stgX x0 x1 x6 x7 f] (.ret (.bool (decide (0 ≤ offG f l 0)))) [stgX x0 x1 x6 x7 f] := by
  refine CallOk.ofS hTT Tryz.func141 rfl rfl ?_
  have hd := decPls1_enc hzo
  unfold stgX
  repeat (first | (with_reducible (first | apply wA | apply wB | apply wC | apply wD | apply wE | apply wF | apply wG | apply wH | apply wI | apply wJ | apply wK | apply wL | apply wM | apply wN | apply wO | apply wP | apply wQ rfl | apply wR | apply wS | apply wT | apply wU)) | ((with_reducible (first | apply wV | apply wW | apply wX | (apply wY [] hTT cfI_ok noM_ok mixed; (focus kernel_rfl)))); (focus (simp only [Tryz.f141, cfI, c169, hd, h0, h1, h6, h7, hs, stgX, ge_iff_le, go_sem]; rfl))) | (with_reducible refine wZ hTT cfI_ok noM_ok ?_) | (with_reducible refine wa ?_; refine And.intro ?_ ?_; (focus kernel_rfl)))
  refine ⟨rfl, rfl, _, rfl, ?_⟩
  simp only [h0, h1, h6, h7, ltBL_cons, ltBL_nil, ltB_sl, ltB_int, Box.ltB, go_sem]
end Go.Pv
namespace Go.Pv
open Go Go.RowKit Go.Proofs
def c29 : List PV → List Box → Option (PRes × List Box)
  | [], sg => some (.ret (.bool true), sg)
  | _, _ => none
theorem closedL_lbs (l : List Lb) : closedL (l.map encLb) = true := closedL_map (fun _ => rfl) l
end Go.Pv
namespace Go.Pv
/-- What holds of each limb's end and turn. -/
structure EndsAt (s : Int) (ls : List Lb) (ps : List Int) (O : List Pl) (R : List Int) : Prop where
  lo : O.length = ls.length
  lr : R.length = ls.length
  at_ : ∀ (i : Nat) (x : Lb) (t : Int), ls[i]? = some x → ps[i]? = some t → O[i]? = some (endG s x O R t) ∧ R[i]? = some (turnG s x O R t)
end Go.Pv
