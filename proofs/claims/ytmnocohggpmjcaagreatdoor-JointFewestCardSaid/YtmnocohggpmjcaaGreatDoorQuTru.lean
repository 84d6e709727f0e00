/- The truths of a pose, in plain terms. -/
import Derived.Test.YtmnocohggpmjcaaGreatDoorQtA
import Derived.Test.YtmnocohggpmjcaaGreatDoorQfJoint
import Derived.Test.YtmnocohggpmjcaaGreatDoorQdWalk
set_option linter.all false
namespace Go.Pv
open Go Go.RowKit Go.Proofs
/-- Whether numbers lie within spans, each in its own. -/
def inS : List (Int × Int) → List Int → Bool
  | [], [] => true
  | x :: r, t :: q => inB t x.1 x.2 && inS r q
  | _, _ => false
theorem mem_extsS : ∀ (sp : List (Int × Int)) (now l : List Int), l ∈ exts sp now ↔ ∃ q, l = now ++ q ∧ inS sp q = true
  | [], now, l => by
    show l ∈ [now] ↔ _
    rw [List.mem_singleton]
    constructor
    · rintro rfl; exact ⟨[], by simp, rfl⟩
    · rintro ⟨q, rfl, h⟩
      cases q with
      | nil => simp
      | cons a q => cases h
  | x :: r, now, l => by
    show l ∈ (rng x.1 x.2).flatMap (fun n => exts r (now ++ [n])) ↔ _
    rw [List.mem_flatMap]
    constructor
    · rintro ⟨n, hn, hl⟩
      obtain ⟨q, rfl, hq⟩ := (mem_extsS r _ _).1 hl
      refine ⟨n :: q, by simp, ?_⟩
      have := mem_rng.1 hn
      simp [inS, inB, hq]; omega
    · rintro ⟨q, rfl, hq⟩
      cases q with
      | nil => cases hq
      | cons n q =>
        simp [inS, inB] at hq
        exact ⟨n, mem_rng.2 (by omega), (mem_extsS r _ _).2 ⟨q, by simp, hq.2⟩⟩
/-- The spans of a pose's truths; the truths. -/
def truS : List Lb → List Int → List (Int × Int)
  | x :: r, t :: q => (max x.lo (t - x.w), min x.hi (t + x.w)) :: truS r q
  | _, _ => []
def truthsG (ls : List Lb) (ps : List Int) : List (List Int) := exts (truS ls ps) []
theorem mem_truths {ls : List Lb} {ps l : List Int} : l ∈ truthsG ls ps ↔ inS (truS ls ps) l = true := by
  unfold truthsG
  rw [mem_extsS]
  simp
theorem tru_len : ∀ {ls : List Lb} {ps : List Int}, poseG ls ps = true → (truS ls ps).length = ls.length
  | [], [], _ => rfl
  | x :: r, t :: q, h => by
    simp only [poseG, Bool.and_eq_true] at h
    show (truS r q).length + 1 = r.length + 1
    rw [tru_len h.2]
  | [], _ :: _, h => by cases h
  | _ :: _, [], h => by cases h
theorem tru_get : ∀ {ls : List Lb} {ps : List Int} {i : Nat} {x : Lb} {t : Int}, ls[i]? = some x → ps[i]? = some t → (truS ls ps)[i]? = some (max x.lo (t - x.w), min x.hi (t + x.w))
  | x :: r, t :: q, 0, _, _, h, k => by cases h; cases k; rfl
  | x :: r, t :: q, i + 1, _, _, h, k => tru_get (ls := r) (ps := q) (i := i) h k
  | [], _, _, _, _, h, _ => by cases h
  | _ :: _, [], _, _, _, _, k => by cases k
theorem lb_w {n : Int} {x : Lb} (h : lbB n x = true) : -4 ≤ x.lo ∧ x.lo ≤ x.hi ∧ x.hi ≤ 4 ∧ 0 ≤ x.w ∧ x.w ≤ 2 := by
  simp [lbB, inB] at h; omega
theorem tru_bd {s : Int} {ls : List Lb} {ps : List Int} (hf : figB s ls = true) (hp : poseG ls ps = true) : ∀ y ∈ truS ls ps, -4 ≤ y.1 ∧ y.1 ≤ y.2 ∧ y.2 ≤ 4 := by
  obtain ⟨_, _, _, _, hl⟩ := fig_limbs hf
  obtain ⟨e1, e2⟩ := pose_at hp
  intro y hy
  obtain ⟨i, hi, rfl⟩ := List.mem_iff_getElem.1 hy
  rw [tru_len hp] at hi
  have hx := List.getElem?_eq_getElem hi
  have ht := List.getElem?_eq_getElem (show i < ps.length by omega)
  have hg := tru_get hx ht
  have h1 := lb_w (hl i _ hx)
  have h2 := e2 i _ _ hx ht
  have h3 : (truS ls ps)[i] = _ := (List.getElem?_eq_some_iff.1 hg).2
  rw [h3]
  simp only
  omega
theorem inS_pose : ∀ {ls : List Lb} {ps l : List Int}, poseG ls ps = true → inS (truS ls ps) l = true → poseG ls l = true
  | [], [], l, _, h => by
    cases l with
    | nil => rfl
    | cons a l => cases h
  | x :: r, t :: q, l, hp, h => by
    cases l with
    | nil => cases h
    | cons a l =>
      simp only [poseG, Bool.and_eq_true] at hp
      have h : (inB a (max x.lo (t - x.w)) (min x.hi (t + x.w)) && inS (truS r q) l) = true := h
      simp only [Bool.and_eq_true] at h
      have := inS_pose hp.2 h.2
      have h1 := h.1
      simp [inB] at h1
      simp [poseG, this, inB]
      omega
  | [], _ :: _, _, h, _ => by cases h
  | _ :: _, [], _, h, _ => by cases h
theorem truth_pose {ls : List Lb} {ps l : List Int} (hp : poseG ls ps = true) (h : l ∈ truthsG ls ps) : poseG ls l = true := inS_pose hp (mem_truths.1 h)
theorem truths_len {s : Int} {ls : List Lb} {ps : List Int} (hf : figB s ls = true) (hp : poseG ls ps = true) : (truthsG ls ps).length ≤ 59049 := by
  obtain ⟨_, _, _, h5, _⟩ := fig_limbs hf
  have := exts_len 9 (truS ls ps) [] (fun x hx => by have := tru_bd hf hp x hx; omega)
  have h2 : (truS ls ps).length ≤ 5 := by rw [tru_len hp]; omega
  exact Nat.le_trans this (Nat.le_trans (Nat.pow_le_pow_right (by decide) h2) (by decide))
/-- How surely a pose is held; the first truth that is not fine. -/
def sureI (T : List (List Int)) (p : List Int → Bool) : Int := if (T.filter p).length = T.length then 3 else if (T.filter p).length = 0 then 1 else 2
def proofO (T : List (List Int)) (p : List Int → Bool) : Option (List Int) := T.find? fun l => !p l
theorem proof_none {T : List (List Int)} {p : List Int → Bool} : proofO T p = none ↔ (T.filter p).length = T.length := by
  unfold proofO
  rw [List.find?_eq_none]
  induction T with
  | nil => simp
  | cons l T ih =>
    have hle := List.length_filter_le p T
    cases h : p l
    · rw [List.filter_cons_of_neg (by simp [h])]
      constructor
      · intro k; have := k l (List.mem_cons_self ..); simp [h] at this
      · intro k; simp at k; omega
    · rw [List.filter_cons_of_pos h, List.length_cons, List.length_cons]
      constructor
      · intro k; rw [ih.1 fun x hx => k x (List.mem_cons_of_mem _ hx)]
      · intro k x hx
        rcases List.mem_cons.1 hx with rfl | hx
        · simp [h]
        · exact ih.2 (by omega) x hx
def proofW : Option (List Int) → PV
  | some l => .tuple [pvL l, .bool true]
  | none => .tuple [.sl .n [], .bool false]
def sureR (s : Int) (ls : List Lb) (g : Stg) (ps : List Int) : PV := if figB s ls = true ∧ stgG ls g = true ∧ poseG ls ps = true then .tuple [ii (sureI (truthsG ls ps) (finG s ls g)), ii 0] else .tuple [ii 0, ii 2]
def proofX (s : Int) (ls : List Lb) (g : Stg) (ps : List Int) : PV := proofW (proofO (truthsG ls ps) (finG s ls g))
end Go.Pv
namespace Go.Pv
open Go Go.RowKit Go.Proofs
set_option maxRecDepth 10000
set_option maxHeartbeats 4000000
theorem tru_take {ls : List Lb} {ps : List Int} {i : Nat} {x : Lb} {t : Int} (hx : ls[i]? = some x) (ht : ps[i]? = some t) : (truS ls ps).take (i + 1) = (truS ls ps).take i ++ [(max x.lo (t - x.w), min x.hi (t + x.w))] := by
  rw [List.take_add_one, tru_get hx ht]; rfl
theorem truths_109 (s : Int) (z zp : Z) (ls : List Lb) (ps : List Int) (hzo : zOk z (ls.map encLb) = true) (hzp : zOk zp (ps.map ii) = true) (hf : figB s ls = true) (hp : poseG ls ps = true) :
    CallOk Tryz.prog 109 [.agg [ii s, .sl z (ls.map encLb)], .sl zp (ps.map ii)] [] (.ret (.fn (.func 166) [] [spP .a (truS ls ps)])) [] := by
  refine CallOk.ofF hTT Tryz.func109 rfl rfl ?_
  have hl := fig_len hf
  have hne : ls ≠ [] := fun e => by rw [e] at hl; simp at hl
  have hz : z ≠ .n := fun e => hne (zOk_map hzo e)
  have hpl := (pose_at hp).1
  have hzq : zp ≠ .n := fun e => by have := zOk_map hzp e; rw [this] at hpl; simp at hpl; omega
  obtain ⟨_, _, _, _, hlb⟩ := fig_limbs hf
  have htl := tru_len hp
  repeat (first | (with_reducible (first | apply wA | apply wB | apply wC | apply wD | apply wE | apply wF | apply wG | apply wH | apply wI | apply wJ | apply wK | apply wL | apply wM | apply wN | apply wO | apply wP | apply wQ rfl | apply wR | apply wS | apply wT | apply wU)) | ((with_reducible (first | apply wV | apply wW | apply wX | (apply wY [] hTT cfLe_ok noM_ok mixed; (focus kernel_rfl)))); (focus (simp only [Tryz.f109, go_sem]; with_reducible rfl))) | (with_reducible refine wZ hTT cfLe_ok noM_ok ?_) | (with_reducible refine wa ?_; refine And.intro ?_ ?_; (focus kernel_rfl)))
  refine RunQ.keep [11, 10, 9, 5, 1] (by simp only [go_sem]; rfl) ?_
  refine RunQ.nilRow 5 39 2 (by simp only [go_sem]) (by simp only [go_sem]; rfl) (by simp only [go_sem]; rfl) ?_
  refine RunQ.loop (fun i s' => s' = ⟨[(11, ii i), (10, ii ls.length), (9, .sl z (ls.map encLb)), (5, .ms 1 i), (1, .sl zp (ps.map ii))], 43, [.var [ii s, .sl z (ls.map encLb)] false, .row (decide (i = 0)) 39 2 (((truS ls ps).take i).map spE) false]⟩)
    ls.length rfl ?_
  rintro i _ hi rfl
  by_cases hlt : i < ls.length
  · obtain ⟨x, hx⟩ : ∃ x, ls[i]? = some x := ⟨_, List.getElem?_eq_getElem hlt⟩
    obtain ⟨t, ht⟩ : ∃ t, ps[i]? = some t := ⟨_, List.getElem?_eq_getElem (by omega)⟩
    have hx' : (ls.map encLb)[i]? = some (.agg [ii x.p, ii x.l, ii x.lo, ii x.hi, ii x.w]) := map_get hx
    have ht' : (ps.map ii)[i]? = some (ii t) := map_get ht
    have hlt' : (i : Int) < ls.length := by omega
    have hb1 := lb_w (hlb i x hx)
    have hb2 := (pose_at hp).2 i x t hx ht
    have e4 : IntKind.i64.wrap ((i : Int) + 1) = ((i + 1 : Nat) : Int) := wrap_id (by omega) (by omega)
    have e5 : IntKind.i64.wrap (t - x.w) = t - x.w := wrap_id (by omega) (by omega)
    have e6 : IntKind.i64.wrap (t + x.w) = t + x.w := wrap_id (by omega) (by omega)
    have r2 : i + 1 ≤ maxLen := by unfold maxLen; omega
    have r3 : (i + 1) * 16 ≤ 140737488355328 := by omega
    have hd1 : decide (i + 1 = 0) = false := by simp
    have htk : ((truS ls ps).take (i + 1)).map spE = ((truS ls ps).take i).map spE ++ [.agg [ii (max x.lo (t - x.w)), ii (min x.hi (t + x.w))]] := by
      rw [tru_take hx ht]; simp [spE]
    have hln : ((truS ls ps).take i).length = i := by rw [List.length_take]; omega
    repeat (first | (with_reducible (first | apply wA | apply wB | apply wC | apply wD | apply wE | apply wF | apply wG | apply wH | apply wI | apply wJ | apply wK | apply wL | apply wM | apply wN | apply wO | apply wP | apply wQ rfl | apply wR | apply wS | apply wT | apply wU)) | ((with_reducible (first | apply wV | apply wW | apply wX | (apply wY [] hTT cfLe_ok noM_ok mixed; (focus kernel_rfl)))); (focus (simp only [Tryz.f109, hx', ht', hlt', hz, hzq, e4, e5, e6, r2, r3, hln, mx2, mn2, go_sem]; with_reducible rfl))) | (with_reducible refine wZ hTT cfLe_ok noM_ok ?_) | (with_reducible refine wa ?_; refine And.intro ?_ ?_; (focus kernel_rfl)))
    refine roundQ.t 2 [11, 10, 9, 5, 1] hlt (by simp only [ltBL_sp, ltB_lbs, ltB_is, go_sem]) (by rw [htk]; simp only [hd1, go_sem])
  · have hlt' : ¬ (i : Int) < ls.length := by omega
    obtain rfl : i = ls.length := by omega
    have hi0 : decide (ls.length = 0) = false := by simp [hne]
    have htk : (truS ls ps).take ls.length = truS ls ps := List.take_of_length_le (by omega)
    rw [hi0, htk]
    repeat (first | (with_reducible (first | apply wA | ((fail_if_success (refine RunQ.seq (x := .region 7 _ _) ?_)); (apply wB)) | apply wC | apply wD | apply wE | apply wF | apply wG | apply wH | apply wI | apply wJ | apply wK | apply wL | apply wM | apply wN | apply wO | apply wP | apply wQ rfl | apply wR | apply wS | apply wT | apply wU)) | ((with_reducible (first | apply wV | apply wW | apply wX | (apply wY [] hTT cfLe_ok noM_ok mixed; (focus kernel_rfl)))); (focus (simp only [Tryz.f109, hlt', go_sem]; with_reducible rfl))) | ((fail_if_success (with_reducible show RunQ _ (.region 7 _ _) _ _)); (with_reducible refine wZ hTT cfLe_ok noM_ok ?_)) | (with_reducible refine wa ?_; refine And.intro ?_ ?_; (focus kernel_rfl)))
    refine RunQ.freeze 5 1 (es := (truS ls ps).map spE) (by simp only [go_sem]; rfl) rfl (by simp [htl]) (closedL_sp _) (by simp only [go_sem]; rfl) (by simp only [go_sem]; rfl) ?_
    have hdec := decSps (truS ls ps)
    repeat (first | (with_reducible (first | apply wA | apply wB | apply wC | apply wD | apply wE | apply wF | apply wG | apply wH | apply wI | apply wJ | apply wK | apply wL | apply wM | apply wN | apply wO | apply wP | apply wQ rfl | apply wR | apply wS | apply wT | apply wU)) | ((with_reducible (first | apply wV | apply wW | apply wX | (apply wY [] hTT cfLe_ok noM_ok mixed; (focus kernel_rfl)))); (focus (simp only [Tryz.f109, cfLe, c136, hdec, go_sem]; with_reducible rfl))) | (with_reducible refine wZ hTT cfLe_ok noM_ok ?_) | (with_reducible refine wa ?_; refine And.intro ?_ ?_; (focus kernel_rfl)))
    refine ⟨rfl, rfl, _, rfl, leave_closed ?_⟩
    have hcc := closedL_sp (truS ls ps)
    show (closedL [] && closedL [PV.ip [.sl .a ((truS ls ps).map spE)]]) = true
    simp [PV.closed, closedL, hcc]
def c109 : List PV → List Box → Option (PRes × List Box)
  | [v, p], sg => match decFig v, decIs1 p with
    | some (s, ls), some ps => if figB s ls = true ∧ poseG ls ps = true then some (.ret (.fn (.func 166) [] [spP .a (truS ls ps)]), sg) else none
    | _, _ => none
  | _, _ => none
theorem c109_ok : ConOk Tryz.prog 109 c109 := ConOk.of0 (ent Tryz.func109 rfl) fun args sg r sg' h => by
  unfold c109 at h
  split at h <;> try (cases h; done)
  split at h <;> try (cases h; done)
  rename_i h1 h3
  split at h <;> cases h
  rename_i hc
  obtain ⟨z, rfl, hz⟩ := decFig_inv h1
  obtain ⟨zp, rfl, hp⟩ := decIs1_inv h3
  exact ⟨_, rfl, rfl, by rw [ltBL_cons, ltB_fig, ltBL_cons, ltB_isl]; rfl, truths_109 _ _ _ _ _ (zOk_n' hz) (zOk_n' hp) hc.1 hc.2⟩
end Go.Pv
