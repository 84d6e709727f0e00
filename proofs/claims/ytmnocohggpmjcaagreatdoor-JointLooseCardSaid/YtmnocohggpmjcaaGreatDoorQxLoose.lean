/- The law JointLoose in plain terms: which lists are truths; how surely a pose is held; a proof is the first one. -/
import Derived.Test.YtmnocohggpmjcaaGreatDoorQxCard
import Derived.Test.YtmnocohggpmjcaaGreatDoorQpHands
import Derived.Test.YtmnocohggpmjcaaGreatDoorQwSpr
import Derived.Test.YtmnocohggpmjcaaGreatDoorQxMet
import Derived.Test.YtmnocohggpmjcaaGreatDoorQuRef
import Derived.Test.YtmnocohggpmjcaaGreatDoorQoFirst
import Derived.Test.YtmnocohggpmjcaaGreatDoorQgEnds
import Derived.Test.YtmnocohggpmjcaaGreatDoorQkSame
set_option linter.all false
namespace Go.Pv
open Go Go.RowKit Go.Proofs
theorem inS_iff : ∀ {ls : List Lb} {ps os : List Int}, poseG ls ps = true → (inS (truS ls ps) os = true ↔ poseG ls os = true ∧ ∀ (j : Nat) (x : Lb) (t u : Int), ls[j]? = some x → ps[j]? = some t → os[j]? = some u → t - x.w ≤ u ∧ u ≤ t + x.w)
  | [], [], os, _ => by
    cases os with
    | nil => exact ⟨fun _ => ⟨rfl, fun j x t u h => by simp at h⟩, fun _ => rfl⟩
    | cons a os => exact ⟨fun h => (by cases h), fun h => (by cases h.1)⟩
  | x :: r, t :: q, os, hp => by
    simp only [poseG, Bool.and_eq_true] at hp
    cases os with
    | nil => exact ⟨fun h => (by cases h), fun h => (by cases h.1)⟩
    | cons u os =>
      have ih := inS_iff (os := os) hp.2
      show (inB u (max x.lo (t - x.w)) (min x.hi (t + x.w)) && inS (truS r q) os) = true ↔ _
      simp only [poseG, Bool.and_eq_true, ih]
      constructor
      · rintro ⟨h1, h2, h3⟩
        simp [inB] at h1
        refine ⟨⟨by simp [inB]; omega, h2⟩, fun j y t' u' hy ht hu => ?_⟩
        cases j with
        | zero => cases hy; cases ht; cases hu; omega
        | succ j => exact h3 j y t' u' hy ht hu
      · rintro ⟨⟨h1, h2⟩, h3⟩
        have := h3 0 x t u rfl rfl rfl
        simp [inB] at h1
        exact ⟨by simp [inB]; omega, h2, fun j y t' u' hy ht hu => h3 (j + 1) y t' u' hy ht hu⟩
  | [], _ :: _, _, h => by cases h
  | _ :: _, [], _, h => by cases h
theorem card_tru : ∀ {ls : List Lb} {ps : List Int}, poseG ls ps = true → cardS (truS ls ps) ≤ cardS (spansG ls)
  | [], [], _ => Nat.le_refl _
  | x :: r, t :: q, h => by
    simp only [poseG, Bool.and_eq_true] at h
    show (min x.hi (t + x.w) + 1 - max x.lo (t - x.w)).toNat * cardS (truS r q) ≤ (x.hi + 1 - x.lo).toNat * cardS (spansG r)
    exact Nat.mul_le_mul (by omega) (card_tru h.2)
  | [], _ :: _, h => by cases h
  | _ :: _, [], h => by cases h
theorem spread_2000 {s : Int} {ls : List Lb} {ps : List Int} (hf : figB s ls = true) (hp : poseG ls ps = true) (n : Int) : (spreadG s ls ps n).length ≤ 2000 := by
  have h1 := puts_len (endL s ls n (truthsG ls ps))
  have h2 : (endL s ls n (truthsG ls ps)).length = (truthsG ls ps).length := by simp [endL]
  have h3 : (truthsG ls ps).length = cardS (truS ls ps) := exts_card _ _
  have h4 := card_tru hp
  have h5 := card_2000 hf
  unfold spreadG
  omega
theorem spread_mem {s : Int} {ls : List Lb} {ps : List Int} {n : Int} {l : List Int} (h : l ∈ truthsG ls ps) : endG1 s ls n l ∈ spreadG s ls ps n := by
  unfold spreadG
  rw [puts_mem]
  exact List.mem_map.2 ⟨l, h, rfl⟩
theorem sure_bd (T : List (List Int)) (p : List Int → Bool) : 1 ≤ sureI T p ∧ sureI T p ≤ 3 := by
  unfold sureI
  split
  · omega
  · split <;> omega
theorem sure_none {T : List (List Int)} {p : List Int → Bool} : sureI T p = 3 ↔ proofO T p = none := by
  rw [proof_none]
  unfold sureI
  constructor
  · intro h
    split at h
    · assumption
    · split at h <;> omega
  · intro h
    rw [if_pos h]
theorem proof_no {T : List (List Int)} {p : List Int → Bool} (h : proofO T p = none) {l : List Int} (hl : l ∈ T) : p l = true := by
  unfold proofO at h
  rw [List.find?_eq_none] at h
  have := h l hl
  simpa using this
theorem sure_1 {T : List (List Int)} {p : List Int → Bool} (h : sureI T p = 1) {l : List Int} (hl : l ∈ T) : p l = false := by
  unfold sureI at h
  split at h
  · omega
  · split at h
    · rename_i h0
      have h0 := List.length_eq_zero_iff.1 h0
      rw [List.filter_eq_nil_iff] at h0
      simpa using h0 l hl
    · omega
theorem proof_some {T : List (List Int)} {p : List Int → Bool} {l : List Int} (h : proofO T p = some l) : l ∈ T ∧ p l = false := by
  unfold proofO at h
  have h1 := List.find?_some h
  exact ⟨List.mem_of_find?_eq_some h, by simpa using h1⟩
theorem proof_least {p : List Int → Bool} {sp : List (Int × Int)} {now l os : List Int} (h : proofO (exts sp now) p = some l) (hm : os ∈ exts sp now) (hp : p os = false) : befG os l = false := by
  unfold proofO at h
  rw [← List.head?_filter] at h
  cases hc : (exts sp now).filter fun l => !p l with
  | nil => rw [hc] at h; cases h
  | cons a r =>
    rw [hc] at h
    cases h
    exact first_least hc hm (by simp [hp])
end Go.Pv
namespace Go.Pv
open Go Go.RowKit Go.Proofs
set_option maxRecDepth 10000
set_option maxHeartbeats 4000000
def cfUb : CallF := cfAdd (cfAdd cf0 27 c86) 80 c128
theorem cfUb_ok : CallFOk Tryz.prog cfUb := cfAdd_ok (cfAdd_ok cf0_ok c27_ok) c80_ok
theorem True_74 (s : Int) (z zp zo : Z) (ls : List Lb) (ps os : List Int) (hzo : zOk z (ls.map encLb) = true) (hzp : zOk zp (ps.map ii) = true) (hzq : zOk zo (os.map ii) = true) (hf : figB s ls = true) (hp : poseG ls ps = true) :
    CallOk Tryz.prog 74 [.agg [ii s, .sl z (ls.map encLb)], .sl zp (ps.map ii), .sl zo (os.map ii)] [] (.ret (.bool (inS (truS ls ps) os))) [] := by
  refine CallOk.of0 hTT Tryz.func74 rfl rfl ?_
  have hd := decFig_enc s z ls hzo
  have hdo := decIs1_enc hzq
  have hl := fig_len hf
  have hs2 : ls.length ≤ 1000 := by omega
  have hne : ls ≠ [] := fun e => by rw [e] at hl; simp at hl
  have hz : z ≠ .n := fun e => hne (zOk_map hzo e)
  have hpl := (pose_at hp).1
  have hpn : zp ≠ .n := fun e => by have := zOk_map hzp e; rw [this] at hpl; simp at hpl; omega
  obtain ⟨_, _, _, _, hlb⟩ := fig_limbs hf
  cases a0 : poseG ls os
  · have hr : inS (truS ls ps) os = false := by
      rw [Bool.eq_false_iff]
      intro h
      have := ((inS_iff hp).1 h).1
      rw [a0] at this
      cases this
    rw [hr]
    repeat (first | (with_reducible (first | apply wA | apply wB | apply wC | apply wD | apply wE | apply wF | apply wG | apply wH | apply wI | apply wJ | apply wK | apply wL | apply wM | apply wN | apply wO | apply wP | apply wQ rfl | apply wR | apply wS | apply wT | apply wU)) | ((with_reducible (first | apply wV | apply wW | apply wX | (apply wY [] hTT cfUb_ok noM_ok mixed; (focus kernel_rfl)))); (focus (simp only [Tryz.f74, cfUb, c86, hd, hdo, a0, hs2, go_sem]; with_reducible rfl))) | (with_reducible refine wZ hTT cfUb_ok noM_ok ?_) | (with_reducible refine wa ?_; refine And.intro ?_ ?_; (focus kernel_rfl)))
    exact ⟨rfl, rfl, _, rfl, rfl⟩
  have hol := (pose_at a0).1
  have hon : zo ≠ .n := fun e => by have := zOk_map hzq e; rw [this] at hol; simp at hol; omega
  repeat (first | (with_reducible (first | apply wA | ((fail_if_success (refine RunQ.seq (x := .region 4 _ _) ?_)); (apply wB)) | apply wC | apply wD | apply wE | apply wF | apply wG | apply wH | apply wI | apply wJ | apply wK | apply wL | apply wM | apply wN | apply wO | apply wP | apply wQ rfl | apply wR | apply wS | apply wT | apply wU)) | ((with_reducible (first | apply wV | apply wW | apply wX | (apply wY [] hTT cfUb_ok noM_ok mixed; (focus kernel_rfl)))); (focus (simp only [Tryz.f74, cfUb, c86, hd, hdo, a0, hs2, go_sem]; with_reducible rfl))) | ((fail_if_success (with_reducible show RunQ _ (.region 4 _ _) _ _)); (with_reducible refine wZ hTT cfUb_ok noM_ok ?_)) | (with_reducible refine wa ?_; refine And.intro ?_ ?_; (focus kernel_rfl)))
  refine RunQ.keep [7, 3, 1, 2] (by simp only [go_sem]; rfl) ?_
  refine RunQ.loop (fun i s' => (∀ j x t u, j < i → ls[j]? = some x → ps[j]? = some t → os[j]? = some u → t - x.w ≤ u ∧ u ≤ t + x.w) ∧ s' = ⟨[(7, ii i), (3, .bp 0 0), (1, .sl zp (ps.map ii)), (2, .sl zo (os.map ii))], 46, [.var [ii s, .sl z (ls.map encLb)] false]⟩)
    ps.length ⟨fun j x t u h => absurd h (by omega), rfl⟩ ?_
  rintro i _ hi ⟨hb, rfl⟩
  by_cases hlt : i < ps.length
  · obtain ⟨x, hx⟩ : ∃ x, ls[i]? = some x := ⟨_, List.getElem?_eq_getElem (by omega)⟩
    obtain ⟨t, ht⟩ : ∃ t, ps[i]? = some t := ⟨_, List.getElem?_eq_getElem hlt⟩
    obtain ⟨u, hu⟩ : ∃ u, os[i]? = some u := ⟨_, List.getElem?_eq_getElem (by omega)⟩
    have hx' : (ls.map encLb)[i]? = some (.agg [ii x.p, ii x.l, ii x.lo, ii x.hi, ii x.w]) := map_get hx
    have ht' : (ps.map ii)[i]? = some (ii t) := map_get ht
    have hu' : (os.map ii)[i]? = some (ii u) := map_get hu
    have hlt' : (i : Int) < ps.length := by omega
    have hb1 := lb_w (hlb i x hx)
    have hb2 := (pose_at hp).2 i x t hx ht
    have e4 : IntKind.i64.wrap ((i : Int) + 1) = ((i + 1 : Nat) : Int) := wrap_id (by omega) (by omega)
    have e5 : IntKind.i64.wrap (t - x.w) = t - x.w := wrap_id (by omega) (by omega)
    have e6 : IntKind.i64.wrap (t + x.w) = t + x.w := wrap_id (by omega) (by omega)
    cases hin : inB u (t - x.w) (t + x.w)
    · have hr : inS (truS ls ps) os = false := by
        rw [Bool.eq_false_iff]
        intro h
        have := ((inS_iff hp).1 h).2 i x t u hx ht hu
        simp [inB] at hin
        omega
      rw [hr]
      repeat (first | (with_reducible (first | apply wA | apply wB | apply wC | apply wD | apply wE | apply wF | apply wG | apply wH | apply wI | apply wJ | apply wK | apply wL | apply wM | apply wN | apply wO | apply wP | apply wQ rfl | apply wR | apply wS | apply wT | apply wU)) | ((with_reducible (first | apply wV | apply wW | apply wX | (apply wY [] hTT cfUb_ok noM_ok mixed; (focus kernel_rfl)))); (focus (simp only [Tryz.f74, cfUb, c128, hx', ht', hu', hlt', hz, hpn, hon, e5, e6, hin, List.length_map, go_sem]; with_reducible rfl))) | (with_reducible refine wZ hTT cfUb_ok noM_ok ?_) | (with_reducible refine wa ?_; refine And.intro ?_ ?_; (focus kernel_rfl)))
      exact ⟨rfl, rfl, _, rfl, rfl⟩
    · repeat (first | (with_reducible (first | apply wA | apply wB | apply wC | apply wD | apply wE | apply wF | apply wG | apply wH | apply wI | apply wJ | apply wK | apply wL | apply wM | apply wN | apply wO | apply wP | apply wQ rfl | apply wR | apply wS | apply wT | apply wU)) | ((with_reducible (first | apply wV | apply wW | apply wX | (apply wY [] hTT cfUb_ok noM_ok mixed; (focus kernel_rfl)))); (focus (simp only [Tryz.f74, cfUb, c128, hx', ht', hu', hlt', hz, hpn, hon, e4, e5, e6, hin, List.length_map, go_sem]; with_reducible rfl))) | (with_reducible refine wZ hTT cfUb_ok noM_ok ?_) | (with_reducible refine wa ?_; refine And.intro ?_ ?_; (focus kernel_rfl)))
      refine roundQ.t 1 [7, 3, 1, 2] hlt (by simp only [ltB_is, ltB_lbs, go_sem]) ⟨fun j x' t' u' hj hx2 ht2 hu2 => by
        by_cases hji : j = i
        · subst hji
          rw [hx] at hx2
          rw [ht] at ht2
          rw [hu] at hu2
          cases hx2; cases ht2; cases hu2
          simp [inB] at hin
          exact hin
        · exact hb j x' t' u' (by omega) hx2 ht2 hu2, by simp only [go_sem]⟩
  · have hlt' : ¬ (i : Int) < ps.length := by omega
    obtain rfl : i = ps.length := by omega
    have hr : inS (truS ls ps) os = true := (inS_iff hp).2 ⟨a0, fun j x t u hx ht hu => hb j x t u (List.getElem?_eq_some_iff.1 ht).1 hx ht hu⟩
    rw [hr]
    repeat (first | (with_reducible (first | apply wA | apply wB | apply wC | apply wD | apply wE | apply wF | apply wG | apply wH | apply wI | apply wJ | apply wK | apply wL | apply wM | apply wN | apply wO | apply wP | apply wQ rfl | apply wR | apply wS | apply wT | apply wU)) | ((with_reducible (first | apply wV | apply wW | apply wX | (apply wY [] hTT cfUb_ok noM_ok mixed; (focus kernel_rfl)))); (focus (simp only [Tryz.f74, hlt', List.length_map, go_sem]; with_reducible rfl))) | (with_reducible refine wZ hTT cfUb_ok noM_ok ?_) | (with_reducible refine wa ?_; refine And.intro ?_ ?_; (focus kernel_rfl)))
    exact ⟨rfl, rfl, _, rfl, rfl⟩
def c74 : List PV → List Box → Option (PRes × List Box)
  | [v, p, o], sg => match decFig v, decIs1 p, decIs1 o with
    | some (s, ls), some ps, some os => if figB s ls = true ∧ poseG ls ps = true then some (.ret (.bool (inS (truS ls ps) os)), sg) else none
    | _, _, _ => none
  | _, _ => none
theorem c74_ok : ConOk Tryz.prog 74 c74 := ConOk.of0 (ent Tryz.func74 rfl) fun args sg r sg' h => by
  unfold c74 at h
  split at h <;> try (cases h; done)
  split at h <;> try (cases h; done)
  rename_i h1 h2 h3
  split at h <;> cases h
  rename_i hc
  obtain ⟨z, rfl, hz⟩ := decFig_inv h1
  obtain ⟨zp, rfl, hp⟩ := decIs1_inv h2
  obtain ⟨zo, rfl, ho⟩ := decIs1_inv h3
  exact ⟨_, rfl, rfl, by rw [ltBL_cons, ltB_fig, ltBL_cons, ltB_isl, ltBL_cons, ltB_isl]; rfl, True_74 _ _ _ _ _ _ _ (zOk_n' hz) (zOk_n' hp) (zOk_n' ho) hc.1 hc.2⟩
end Go.Pv
namespace Go.Pv
open Go Go.RowKit Go.Proofs
set_option maxRecDepth 10000
set_option maxHeartbeats 4000000
def cfUc : CallF := cfAdd (cfAdd (cfAdd (cfAdd (cfAdd (cfAdd (cfAdd (cfAdd (cfAdd (cfAdd (cfAdd (cfAdd cf0 43 c43) 27 c86) 28 c88) 29 c29) 74 c74) 30 c30) 53 c53) 55 c55) 56 c56) 70 c70) 40 c40) 66 c66
theorem cfUc_ok (hk : ConOk Tryz.prog 29 c29) : CallFOk Tryz.prog cfUc := cfAdd_ok (cfAdd_ok (cfAdd_ok (cfAdd_ok (cfAdd_ok (cfAdd_ok (cfAdd_ok (cfAdd_ok (cfAdd_ok (cfAdd_ok (cfAdd_ok (cfAdd_ok cf0_ok c43_ok) c27_ok) c28_ok) hk) c74_ok) c30_ok) c53_ok) c55_ok) c56_ok) c70_ok) c40_ok) c66_ok
theorem loose_21 (hk : ConOk Tryz.prog 29 c29) (s : Int) (z zh zr zp zo : Z) (ls : List Lb) (g : Stg) (ps os : List Int) (n : Int) (hzo : zOk z (ls.map encLb) = true) (hh : zOk zh (g.hs.map encFld) = true) (hr : zOk zr (g.rs.map ii) = true) (hp : zOk zp (ps.map ii) = true) (ho : zOk zo (os.map ii) = true) :
    CallOk Tryz.prog 21 [.agg [ii s, .sl z (ls.map encLb)], encStg zh zr g, .sl zp (ps.map ii), .sl zo (os.map ii), ii n] [] (.ret (.bool true)) [] := by
  refine CallOk.of0 hTT Tryz.func21 rfl rfl ?_
  have hd := decFig_enc s z ls hzo
  have hd2 := decStg_enc hh hr
  have hd3 := decIs1_enc hp
  have hd4 := decIs1_enc ho
  unfold encStg at hd2 ⊢
  cases h1 : rightG s ls g
  · repeat (first | (with_reducible (first | apply wA | apply wB | apply wC | apply wD | apply wE | apply wF | apply wG | apply wH | apply wI | apply wJ | apply wK | apply wL | apply wM | apply wN | apply wO | apply wP | apply wQ rfl | apply wR | apply wS | apply wT | apply wU)) | ((with_reducible (first | apply wV | apply wW | apply wX | (apply wY [] hTT (cfUc_ok hk) noM_ok mixed; (focus kernel_rfl)))); (focus (simp only [Tryz.f21, cfUc, c43, c29, hd, hd2, h1, go_sem]; with_reducible rfl))) | (with_reducible refine wZ hTT (cfUc_ok hk) noM_ok ?_) | (with_reducible refine wa ?_; refine And.intro ?_ ?_; (focus kernel_rfl)))
    exact ⟨rfl, rfl, _, rfl, rfl⟩
  by_cases h2 : (8 : Int) < ps.length
  · repeat (first | (with_reducible (first | apply wA | apply wB | apply wC | apply wD | apply wE | apply wF | apply wG | apply wH | apply wI | apply wJ | apply wK | apply wL | apply wM | apply wN | apply wO | apply wP | apply wQ rfl | apply wR | apply wS | apply wT | apply wU)) | ((with_reducible (first | apply wV | apply wW | apply wX | (apply wY [] hTT (cfUc_ok hk) noM_ok mixed; (focus kernel_rfl)))); (focus (simp only [Tryz.f21, cfUc, c43, c29, hd, hd2, h1, h2, gt_iff_lt, go_sem]; with_reducible rfl))) | (with_reducible refine wZ hTT (cfUc_ok hk) noM_ok ?_) | (with_reducible refine wa ?_; refine And.intro ?_ ?_; (focus kernel_rfl)))
    exact ⟨rfl, rfl, _, rfl, rfl⟩
  by_cases h2' : (8 : Int) < os.length
  · repeat (first | (with_reducible (first | apply wA | apply wB | apply wC | apply wD | apply wE | apply wF | apply wG | apply wH | apply wI | apply wJ | apply wK | apply wL | apply wM | apply wN | apply wO | apply wP | apply wQ rfl | apply wR | apply wS | apply wT | apply wU)) | ((with_reducible (first | apply wV | apply wW | apply wX | (apply wY [] hTT (cfUc_ok hk) noM_ok mixed; (focus kernel_rfl)))); (focus (simp only [Tryz.f21, cfUc, c43, c29, hd, hd2, h1, h2, h2', gt_iff_lt, go_sem]; with_reducible rfl))) | (with_reducible refine wZ hTT (cfUc_ok hk) noM_ok ?_) | (with_reducible refine wa ?_; refine And.intro ?_ ?_; (focus kernel_rfl)))
    exact ⟨rfl, rfl, _, rfl, rfl⟩
  have hrr : figB s ls = true ∧ stgG ls g = true := by
    unfold rightG at h1
    simp only [Bool.and_eq_true] at h1
    exact ⟨h1.1.2, h1.2⟩
  have hf := hrr.1
  have hl := fig_len hf
  have hs : ls.length ≤ maxLen := by unfold maxLen; omega
  have hs2 : ls.length ≤ 1000 := by omega
  cases h3 : poseG ls ps
  · repeat (first | (with_reducible (first | apply wA | apply wB | apply wC | apply wD | apply wE | apply wF | apply wG | apply wH | apply wI | apply wJ | apply wK | apply wL | apply wM | apply wN | apply wO | apply wP | apply wQ rfl | apply wR | apply wS | apply wT | apply wU)) | ((with_reducible (first | apply wV | apply wW | apply wX | (apply wY [] hTT (cfUc_ok hk) noM_ok mixed; (focus kernel_rfl)))); (focus (simp only [Tryz.f21, cfUc, c43, c29, c86, hd, hd2, hd3, hs2, h1, h2, h2', h3, gt_iff_lt, go_sem]; with_reducible rfl))) | (with_reducible refine wZ hTT (cfUc_ok hk) noM_ok ?_) | (with_reducible refine wa ?_; refine And.intro ?_ ?_; (focus kernel_rfl)))
    exact ⟨rfl, rfl, _, rfl, rfl⟩
  cases h4 : inS (truS ls ps) os
  · repeat (first | (with_reducible (first | apply wA | apply wB | apply wC | apply wD | apply wE | apply wF | apply wG | apply wH | apply wI | apply wJ | apply wK | apply wL | apply wM | apply wN | apply wO | apply wP | apply wQ rfl | apply wR | apply wS | apply wT | apply wU)) | ((with_reducible (first | apply wV | apply wW | apply wX | (apply wY [] hTT (cfUc_ok hk) noM_ok mixed; (focus kernel_rfl)))); (focus (simp only [Tryz.f21, cfUc, c43, c29, c86, c74, hd, hd2, hd3, hd4, hf, hs2, h1, h2, h2', h3, h4, gt_iff_lt, go_sem]; with_reducible rfl))) | (with_reducible refine wZ hTT (cfUc_ok hk) noM_ok ?_) | (with_reducible refine wa ?_; refine And.intro ?_ ?_; (focus kernel_rfl)))
    exact ⟨rfl, rfl, _, rfl, rfl⟩
  cases h5 : limbG ls n
  · repeat (first | (with_reducible (first | apply wA | apply wB | apply wC | apply wD | apply wE | apply wF | apply wG | apply wH | apply wI | apply wJ | apply wK | apply wL | apply wM | apply wN | apply wO | apply wP | apply wQ rfl | apply wR | apply wS | apply wT | apply wU)) | ((with_reducible (first | apply wV | apply wW | apply wX | (apply wY [] hTT (cfUc_ok hk) noM_ok mixed; (focus kernel_rfl)))); (focus (simp only [Tryz.f21, cfUc, c43, c29, c86, c74, c88, hd, hd2, hd3, hd4, hf, hs, hs2, h1, h2, h2', h3, h4, h5, gt_iff_lt, go_sem]; with_reducible rfl))) | (with_reducible refine wZ hTT (cfUc_ok hk) noM_ok ?_) | (with_reducible refine wa ?_; refine And.intro ?_ ?_; (focus kernel_rfl)))
    exact ⟨rfl, rfl, _, rfl, rfl⟩
  have hne : ls ≠ [] := fun e => by rw [e] at hl; simp at hl
  have hz : z ≠ .n := fun e => hne (zOk_map hzo e)
  have hmem : os ∈ truthsG ls ps := mem_truths.2 h4
  have h6 : poseG ls os = true := truth_pose h3 hmem
  have hli := limb_in h5
  have hl0 := hli.1
  have hE : endsR s ls os = .tuple [.sl .a ((ends s ls os).map encPl), ii 0] := by unfold endsR; rw [hf, h6]; rfl
  have hel : (ends s ls os).length = ls.length := ends_ln hf h6
  have g0 := ends_get (s := s) hf h6 hli
  have g0' : ((ends s ls os).map encPl)[n.toNat]? = some (.agg [ii (endG1 s ls n os).1, ii (endG1 s ls n os).2]) := by rw [List.getElem?_map, g0]; rfl
  have hqU : endG1 s ls n os ∈ spreadG s ls ps n := spread_mem hmem
  have hUl := spread_2000 hf h3 n
  have hUne : spreadG s ls ps n ≠ [] := fun e => by rw [e] at hqU; cases hqU
  have hPU : plsP (spreadG s ls ps n) = .sl .a ((spreadG s ls ps n).map encPl) := by
    unfold plsP
    rw [if_neg]
    simp [hUne]
  have hR : spreadR s ls ps n = .tuple [plsP (spreadG s ls ps n), ii 0] := by unfold spreadR; rw [if_pos ⟨hf, h3, h5⟩]
  rw [hPU] at hR
  have hdq : decPl (.agg [ii (endG1 s ls n os).1, ii (endG1 s ls n os).2]) = some (endG1 s ls n os) := rfl
  have hW : sureR s ls g ps = .tuple [ii (sureI (truthsG ls ps) (finG s ls g)), ii 0] := by unfold sureR; rw [if_pos ⟨hf, hrr.2, h3⟩]
  have hP : proofR s ls g ps = proofV (proofO (truthsG ls ps) (finG s ls g)) := by unfold proofR; rw [if_pos ⟨hf, hrr.2, h3⟩]
  have hF : fineR s ls g os = .tuple [.bool (finG s ls g os), ii 0] := by unfold fineR; rw [if_pos ⟨hf, hrr.2, h6⟩]
  generalize endG1 s ls n os = q at g0' hqU hdq
  generalize spreadG s ls ps n = U at hR hqU hUl hUne
  have hqd : decide (q ∈ U) = true := by simpa using hqU
  have hdU : decL decPl (U.map encPl) = some U := decL_map (g := encPl) decPl_enc U
  have hUl2 : U.length ≤ 100000 := by omega
  have hUl3 : ¬ (2000 : Int) < U.length := by omega
  have hwb := sure_bd (truthsG ls ps) (finG s ls g)
  have hw1 : ¬ sureI (truthsG ls ps) (finG s ls g) < 1 := by omega
  have hw2 : ¬ 3 < sureI (truthsG ls ps) (finG s ls g) := by omega
  have b50 : ((5 : Int) != 0) = true := rfl
  have b55 : ((5 : Int) == 5) = true := rfl
  have b55' : ((5 : Int) != 5) = false := rfl
  have b05 : ((0 : Int) == 5) = false := rfl
  repeat (first | (with_reducible (first | apply wA | ((fail_if_success (refine RunQ.seq (x := .region 3 _ _) ?_)); (apply wB)) | apply wC | apply wD | apply wE | apply wF | apply wG | apply wH | apply wI | apply wJ | apply wK | apply wL | apply wM | apply wN | apply wO | apply wP | apply wQ rfl | apply wR | apply wS | apply wT | apply wU)) | ((with_reducible (first | apply wV | apply wW | apply wX | (apply wY [] hTT (cfUc_ok hk) noM_ok mixed; (focus kernel_rfl)))); (focus (simp only [Tryz.f21, cfUc, c43, c29, c86, c74, c88, hd, hd2, hd3, hd4, hf, hs, hs2, h1, h2, h2', h3, h4, h5, gt_iff_lt, go_sem]; with_reducible rfl))) | ((fail_if_success (with_reducible show RunQ _ (.region 3 _ _) _ _)); (with_reducible refine wZ hTT (cfUc_ok hk) noM_ok ?_)) | (with_reducible refine wa ?_; refine And.intro ?_ ?_; (focus kernel_rfl)))
  refine RunQ.keep [6, 5, 2, 3, 4] (by simp only [go_sem]; rfl) ?_
  repeat (first | (with_reducible (first | apply wA | ((fail_if_success (refine RunQ.seq (x := .region 5 _ _) ?_)); (apply wB)) | apply wC | apply wD | apply wE | apply wF | apply wG | apply wH | apply wI | apply wJ | apply wK | apply wL | apply wM | apply wN | apply wO | apply wP | apply wQ rfl | apply wR | apply wS | apply wT | apply wU)) | ((with_reducible (first | apply wV | apply wW | apply wX | (apply wY [] hTT (cfUc_ok hk) noM_ok mixed; (focus kernel_rfl)))); (focus (simp only [Tryz.f21, cfUc, c30, c53, hd, hd2, hd3, hd4, hs2, hE, hR, gt_iff_lt, go_sem]; with_reducible rfl))) | ((fail_if_success (with_reducible show RunQ _ (.region 5 _ _) _ _)); (with_reducible refine wZ hTT (cfUc_ok hk) noM_ok ?_)) | (with_reducible refine wa ?_; refine And.intro ?_ ?_; (focus kernel_rfl)))
  refine RunQ.keep [14, 13, 12, 11, 6, 5, 2, 3, 4] (by simp only [go_sem]; rfl) ?_
  repeat (first | (with_reducible (first | apply wA | ((fail_if_success (refine RunQ.seq (x := .region 6 _ _) ?_)); (apply wB)) | apply wC | apply wD | apply wE | apply wF | apply wG | apply wH | apply wI | apply wJ | apply wK | apply wL | apply wM | apply wN | apply wO | apply wP | apply wQ rfl | apply wR | apply wS | apply wT | apply wU)) | ((with_reducible (first | apply wV | apply wW | apply wX | (apply wY [] hTT (cfUc_ok hk) noM_ok mixed; (focus kernel_rfl)))); (focus (simp only [Tryz.f21, cfUc, c55, hd, hd2, hd3, hd4, hs2, hW, gt_iff_lt, go_sem]; with_reducible rfl))) | ((fail_if_success (with_reducible show RunQ _ (.region 6 _ _) _ _)); (with_reducible refine wZ hTT (cfUc_ok hk) noM_ok ?_)) | (with_reducible refine wa ?_; refine And.intro ?_ ?_; (focus kernel_rfl)))
  refine RunQ.keep [16, 15, 14, 13, 12, 11, 6, 5, 2, 3, 4] (by simp only [go_sem]; rfl) ?_
  cases hO : proofO (truthsG ls ps) (finG s ls g) with
  | none =>
    have hw3 : sureI (truthsG ls ps) (finG s ls g) = 3 := sure_none.2 hO
    have hfi : finG s ls g os = true := proof_no hO hmem
    rw [hO] at hP
    have hP : proofR s ls g ps = .tuple [.sl .n [], ii 5] := hP
    rw [hfi] at hF
    have e3 : (sureI (truthsG ls ps) (finG s ls g) == 3) = true := by rw [hw3]; rfl
    have e1 : (sureI (truthsG ls ps) (finG s ls g) == 1) = false := by rw [hw3]; rfl
    generalize sureI (truthsG ls ps) (finG s ls g) = w at hW hw1 hw2 e1 e3
    repeat (first | (with_reducible (first | apply wA | ((fail_if_success (refine RunQ.seq (x := .region 8 _ _) ?_)); (apply wB)) | apply wC | apply wD | apply wE | apply wF | apply wG | apply wH | apply wI | apply wJ | apply wK | apply wL | apply wM | apply wN | apply wO | apply wP | apply wQ rfl | apply wR | apply wS | apply wT | apply wU)) | ((with_reducible (first | apply wV | apply wW | apply wX | (apply wY [] hTT (cfUc_ok hk) noM_ok mixed; (focus kernel_rfl)))); (focus (simp only [Tryz.f21, cfUc, c56, c70, hd, hd2, hd3, hd4, hs2, hP, hF, gt_iff_lt, go_sem]; with_reducible rfl))) | ((fail_if_success (with_reducible show RunQ _ (.region 8 _ _) _ _)); (with_reducible refine wZ hTT (cfUc_ok hk) noM_ok ?_)) | (with_reducible refine wa ?_; refine And.intro ?_ ?_; (focus kernel_rfl)))
    refine RunQ.keep [20, 19, 18, 17, 16, 15, 14, 13, 12, 11, 6, 5, 2, 3, 4] (by simp only [go_sem]; rfl) ?_
    repeat (first | (with_reducible (first | apply wA | ((fail_if_success (refine RunQ.seq (x := .region 10 _ _) ?_)); (apply wB)) | apply wC | apply wD | apply wE | apply wF | apply wG | apply wH | apply wI | apply wJ | apply wK | apply wL | apply wM | apply wN | apply wO | apply wP | apply wQ rfl | apply wR | apply wS | apply wT | apply wU)) | ((with_reducible (first | apply wV | apply wW | apply wX | (apply wY [] hTT (cfUc_ok hk) noM_ok mixed; (focus kernel_rfl)))); (focus (simp only [Tryz.f21, cfUc, c40, hdq, hdU, hel, g0', hqd, hl0, hUl2, hUl3, b50, b55, b55', false_implies, true_and, and_self, if_true, gt_iff_lt, beq_self_eq_true, List.length_map, go_sem]; with_reducible rfl))) | ((fail_if_success (with_reducible show RunQ _ (.region 10 _ _) _ _)); (with_reducible refine wZ hTT (cfUc_ok hk) noM_ok ?_)) | (with_reducible refine wa ?_; refine And.intro ?_ ?_; (focus kernel_rfl)))
    refine RunQ.keep [19, 18, 17, 15, 6, 5, 2, 3] (by simp only [go_sem]; rfl) ?_
    repeat (first | (with_reducible (first | apply wA | apply wB | apply wC | apply wD | apply wE | apply wF | apply wG | apply wH | apply wI | apply wJ | apply wK | apply wL | apply wM | apply wN | apply wO | apply wP | apply wQ rfl | apply wR | apply wS | apply wT | apply wU)) | ((with_reducible (first | apply wV | apply wW | apply wX | (apply wY [] hTT (cfUc_ok hk) noM_ok mixed; (focus kernel_rfl)))); (focus (simp only [Tryz.f21, cfUc, c29, hw1, hw2, e1, e3, b50, b55, b55', gt_iff_lt, beq_self_eq_true, go_sem]; with_reducible rfl))) | (with_reducible refine wZ hTT (cfUc_ok hk) noM_ok ?_) | (with_reducible refine wa ?_; refine And.intro ?_ ?_; (focus kernel_rfl)))
    exact ⟨rfl, rfl, _, rfl, rfl⟩
  | some l =>
    obtain ⟨hlT, hlf⟩ := proof_some hO
    have h7 : poseG ls l = true := truth_pose h3 hlT
    have h8 : inS (truS ls ps) l = true := mem_truths.1 hlT
    rw [hO] at hP
    obtain ⟨zn, hzn, hzk⟩ := pvL_z l
    have hd5 := decIs1_enc hzk
    have hP : proofR s ls g ps = .tuple [.sl zn (l.map ii), ii 0] := by rw [hP, ← hzn]; rfl
    have hF2 : fineR s ls g l = .tuple [.bool false, ii 0] := by unfold fineR; rw [if_pos ⟨hf, hrr.2, h7⟩, hlf]
    have hos : os.length ≤ maxLen := by unfold maxLen; omega
    have e3 : (sureI (truthsG ls ps) (finG s ls g) == 3) = false := by
      rw [beq_eq_false_iff_ne]
      intro h
      rw [sure_none.1 h] at hO
      cases hO
    have hbf : finG s ls g os = false → befG os l = false := fun h => proof_least hO hmem h
    have hs1 : sureI (truthsG ls ps) (finG s ls g) = 1 → finG s ls g os = false := fun h => sure_1 h hmem
    generalize sureI (truthsG ls ps) (finG s ls g) = w at hW hw1 hw2 e3 hs1
    generalize finG s ls g os = b at hF hbf hs1
    repeat (first | (with_reducible (first | apply wA | ((fail_if_success (refine RunQ.seq (x := .region 8 _ _) ?_)); (apply wB)) | apply wC | apply wD | apply wE | apply wF | apply wG | apply wH | apply wI | apply wJ | apply wK | apply wL | apply wM | apply wN | apply wO | apply wP | apply wQ rfl | apply wR | apply wS | apply wT | apply wU)) | ((with_reducible (first | apply wV | apply wW | apply wX | (apply wY [] hTT (cfUc_ok hk) noM_ok mixed; (focus kernel_rfl)))); (focus (simp only [Tryz.f21, cfUc, c56, c70, hd, hd2, hd3, hd4, hs2, hP, hF, gt_iff_lt, go_sem]; with_reducible rfl))) | ((fail_if_success (with_reducible show RunQ _ (.region 8 _ _) _ _)); (with_reducible refine wZ hTT (cfUc_ok hk) noM_ok ?_)) | (with_reducible refine wa ?_; refine And.intro ?_ ?_; (focus kernel_rfl)))
    refine RunQ.keep [20, 19, 18, 17, 16, 15, 14, 13, 12, 11, 6, 5, 2, 3, 4] (by simp only [go_sem]; rfl) ?_
    repeat (first | (with_reducible (first | apply wA | ((fail_if_success (refine RunQ.seq (x := .region 10 _ _) ?_)); (apply wB)) | apply wC | apply wD | apply wE | apply wF | apply wG | apply wH | apply wI | apply wJ | apply wK | apply wL | apply wM | apply wN | apply wO | apply wP | apply wQ rfl | apply wR | apply wS | apply wT | apply wU)) | ((with_reducible (first | apply wV | apply wW | apply wX | (apply wY [] hTT (cfUc_ok hk) noM_ok mixed; (focus kernel_rfl)))); (focus (simp only [Tryz.f21, cfUc, c40, hdq, hdU, hel, g0', hqd, hl0, hUl2, hUl3, false_implies, true_and, and_self, if_true, gt_iff_lt, beq_self_eq_true, List.length_map, go_sem]; with_reducible rfl))) | ((fail_if_success (with_reducible show RunQ _ (.region 10 _ _) _ _)); (with_reducible refine wZ hTT (cfUc_ok hk) noM_ok ?_)) | (with_reducible refine wa ?_; refine And.intro ?_ ?_; (focus kernel_rfl)))
    refine RunQ.keep [19, 18, 17, 15, 6, 5, 2, 3] (by simp only [go_sem]; rfl) ?_
    cases b with
    | false =>
      have hbf := hbf rfl
      by_cases hw : w = 1
      · have e1 : (w == 1) = true := by rw [hw]; rfl
        repeat (first | (with_reducible (first | apply wA | ((fail_if_success (refine RunQ.seq (x := .region 12 _ _) ?_)); (apply wB)) | apply wC | apply wD | apply wE | apply wF | apply wG | apply wH | apply wI | apply wJ | apply wK | apply wL | apply wM | apply wN | apply wO | apply wP | apply wQ rfl | apply wR | apply wS | apply wT | apply wU)) | ((with_reducible (first | apply wV | apply wW | apply wX | (apply wY [] hTT (cfUc_ok hk) noM_ok mixed; (focus kernel_rfl)))); (focus (simp only [Tryz.f21, hw1, hw2, e1, e3, b05, gt_iff_lt, beq_self_eq_true, go_sem]; with_reducible rfl))) | ((fail_if_success (with_reducible show RunQ _ (.region 12 _ _) _ _)); (with_reducible refine wZ hTT (cfUc_ok hk) noM_ok ?_)) | (with_reducible refine wa ?_; refine And.intro ?_ ?_; (focus kernel_rfl)))
        refine RunQ.keep [19, 18, 17, 6, 5, 2, 3] (by simp only [go_sem]; rfl) ?_
        repeat (first | (with_reducible (first | apply wA | ((fail_if_success (refine RunQ.seq (x := .region 14 _ _) ?_)); (apply wB)) | apply wC | apply wD | apply wE | apply wF | apply wG | apply wH | apply wI | apply wJ | apply wK | apply wL | apply wM | apply wN | apply wO | apply wP | apply wQ rfl | apply wR | apply wS | apply wT | apply wU)) | ((with_reducible (first | apply wV | apply wW | apply wX | (apply wY [] hTT (cfUc_ok hk) noM_ok mixed; (focus kernel_rfl)))); (focus (simp only [Tryz.f21, beq_self_eq_true, go_sem]; with_reducible rfl))) | ((fail_if_success (with_reducible show RunQ _ (.region 14 _ _) _ _)); (with_reducible refine wZ hTT (cfUc_ok hk) noM_ok ?_)) | (with_reducible refine wa ?_; refine And.intro ?_ ?_; (focus kernel_rfl)))
        refine RunQ.keep [19, 17, 6, 5, 2, 3] (by simp only [go_sem]; rfl) ?_
        repeat (first | (with_reducible (first | apply wA | ((fail_if_success (refine RunQ.seq (x := .region 16 _ _) ?_)); (apply wB)) | apply wC | apply wD | apply wE | apply wF | apply wG | apply wH | apply wI | apply wJ | apply wK | apply wL | apply wM | apply wN | apply wO | apply wP | apply wQ rfl | apply wR | apply wS | apply wT | apply wU)) | ((with_reducible (first | apply wV | apply wW | apply wX | (apply wY [] hTT (cfUc_ok hk) noM_ok mixed; (focus kernel_rfl)))); (focus (simp only [Tryz.f21, cfUc, c86, c74, c66, hd, hd2, hd3, hd4, hd5, hf, hs2, hos, h3, h7, h8, hbf, beq_self_eq_true, go_sem]; with_reducible rfl))) | ((fail_if_success (with_reducible show RunQ _ (.region 16 _ _) _ _)); (with_reducible refine wZ hTT (cfUc_ok hk) noM_ok ?_)) | (with_reducible refine wa ?_; refine And.intro ?_ ?_; (focus kernel_rfl)))
        refine RunQ.keep [17, 6, 5] (by simp only [go_sem]; rfl) ?_
        repeat (first | (with_reducible (first | apply wA | apply wB | apply wC | apply wD | apply wE | apply wF | apply wG | apply wH | apply wI | apply wJ | apply wK | apply wL | apply wM | apply wN | apply wO | apply wP | apply wQ rfl | apply wR | apply wS | apply wT | apply wU)) | ((with_reducible (first | apply wV | apply wW | apply wX | (apply wY [] hTT (cfUc_ok hk) noM_ok mixed; (focus kernel_rfl)))); (focus (simp only [Tryz.f21, cfUc, c70, c29, hd, hd2, hd5, hs2, hF2, beq_self_eq_true, go_sem]; with_reducible rfl))) | (with_reducible refine wZ hTT (cfUc_ok hk) noM_ok ?_) | (with_reducible refine wa ?_; refine And.intro ?_ ?_; (focus kernel_rfl)))
        exact ⟨rfl, rfl, _, rfl, rfl⟩
      · have e1 : (w == 1) = false := by rw [beq_eq_false_iff_ne]; exact hw
        repeat (first | (with_reducible (first | apply wA | ((fail_if_success (refine RunQ.seq (x := .region 12 _ _) ?_)); (apply wB)) | apply wC | apply wD | apply wE | apply wF | apply wG | apply wH | apply wI | apply wJ | apply wK | apply wL | apply wM | apply wN | apply wO | apply wP | apply wQ rfl | apply wR | apply wS | apply wT | apply wU)) | ((with_reducible (first | apply wV | apply wW | apply wX | (apply wY [] hTT (cfUc_ok hk) noM_ok mixed; (focus kernel_rfl)))); (focus (simp only [Tryz.f21, hw1, hw2, e1, e3, b05, gt_iff_lt, beq_self_eq_true, go_sem]; with_reducible rfl))) | ((fail_if_success (with_reducible show RunQ _ (.region 12 _ _) _ _)); (with_reducible refine wZ hTT (cfUc_ok hk) noM_ok ?_)) | (with_reducible refine wa ?_; refine And.intro ?_ ?_; (focus kernel_rfl)))
        refine RunQ.keep [19, 18, 17, 6, 5, 2, 3] (by simp only [go_sem]; rfl) ?_
        repeat (first | (with_reducible (first | apply wA | ((fail_if_success (refine RunQ.seq (x := .region 14 _ _) ?_)); (apply wB)) | apply wC | apply wD | apply wE | apply wF | apply wG | apply wH | apply wI | apply wJ | apply wK | apply wL | apply wM | apply wN | apply wO | apply wP | apply wQ rfl | apply wR | apply wS | apply wT | apply wU)) | ((with_reducible (first | apply wV | apply wW | apply wX | (apply wY [] hTT (cfUc_ok hk) noM_ok mixed; (focus kernel_rfl)))); (focus (simp only [Tryz.f21, beq_self_eq_true, go_sem]; with_reducible rfl))) | ((fail_if_success (with_reducible show RunQ _ (.region 14 _ _) _ _)); (with_reducible refine wZ hTT (cfUc_ok hk) noM_ok ?_)) | (with_reducible refine wa ?_; refine And.intro ?_ ?_; (focus kernel_rfl)))
        refine RunQ.keep [19, 17, 6, 5, 2, 3] (by simp only [go_sem]; rfl) ?_
        repeat (first | (with_reducible (first | apply wA | ((fail_if_success (refine RunQ.seq (x := .region 16 _ _) ?_)); (apply wB)) | apply wC | apply wD | apply wE | apply wF | apply wG | apply wH | apply wI | apply wJ | apply wK | apply wL | apply wM | apply wN | apply wO | apply wP | apply wQ rfl | apply wR | apply wS | apply wT | apply wU)) | ((with_reducible (first | apply wV | apply wW | apply wX | (apply wY [] hTT (cfUc_ok hk) noM_ok mixed; (focus kernel_rfl)))); (focus (simp only [Tryz.f21, cfUc, c86, c74, c66, hd, hd2, hd3, hd4, hd5, hf, hs2, hos, h3, h7, h8, hbf, beq_self_eq_true, go_sem]; with_reducible rfl))) | ((fail_if_success (with_reducible show RunQ _ (.region 16 _ _) _ _)); (with_reducible refine wZ hTT (cfUc_ok hk) noM_ok ?_)) | (with_reducible refine wa ?_; refine And.intro ?_ ?_; (focus kernel_rfl)))
        refine RunQ.keep [17, 6, 5] (by simp only [go_sem]; rfl) ?_
        repeat (first | (with_reducible (first | apply wA | apply wB | apply wC | apply wD | apply wE | apply wF | apply wG | apply wH | apply wI | apply wJ | apply wK | apply wL | apply wM | apply wN | apply wO | apply wP | apply wQ rfl | apply wR | apply wS | apply wT | apply wU)) | ((with_reducible (first | apply wV | apply wW | apply wX | (apply wY [] hTT (cfUc_ok hk) noM_ok mixed; (focus kernel_rfl)))); (focus (simp only [Tryz.f21, cfUc, c70, c29, hd, hd2, hd5, hs2, hF2, beq_self_eq_true, go_sem]; with_reducible rfl))) | (with_reducible refine wZ hTT (cfUc_ok hk) noM_ok ?_) | (with_reducible refine wa ?_; refine And.intro ?_ ?_; (focus kernel_rfl)))
        exact ⟨rfl, rfl, _, rfl, rfl⟩
    | true =>
      have e1 : (w == 1) = false := by
        rw [beq_eq_false_iff_ne]
        intro h
        exact absurd (hs1 h) (by simp)
      repeat (first | (with_reducible (first | apply wA | ((fail_if_success (refine RunQ.seq (x := .region 12 _ _) ?_)); (apply wB)) | apply wC | apply wD | apply wE | apply wF | apply wG | apply wH | apply wI | apply wJ | apply wK | apply wL | apply wM | apply wN | apply wO | apply wP | apply wQ rfl | apply wR | apply wS | apply wT | apply wU)) | ((with_reducible (first | apply wV | apply wW | apply wX | (apply wY [] hTT (cfUc_ok hk) noM_ok mixed; (focus kernel_rfl)))); (focus (simp only [Tryz.f21, hw1, hw2, e1, e3, b05, gt_iff_lt, beq_self_eq_true, go_sem]; with_reducible rfl))) | ((fail_if_success (with_reducible show RunQ _ (.region 12 _ _) _ _)); (with_reducible refine wZ hTT (cfUc_ok hk) noM_ok ?_)) | (with_reducible refine wa ?_; refine And.intro ?_ ?_; (focus kernel_rfl)))
      refine RunQ.keep [19, 18, 17, 6, 5, 2, 3] (by simp only [go_sem]; rfl) ?_
      repeat (first | (with_reducible (first | apply wA | ((fail_if_success (refine RunQ.seq (x := .region 14 _ _) ?_)); (apply wB)) | apply wC | apply wD | apply wE | apply wF | apply wG | apply wH | apply wI | apply wJ | apply wK | apply wL | apply wM | apply wN | apply wO | apply wP | apply wQ rfl | apply wR | apply wS | apply wT | apply wU)) | ((with_reducible (first | apply wV | apply wW | apply wX | (apply wY [] hTT (cfUc_ok hk) noM_ok mixed; (focus kernel_rfl)))); (focus (simp only [Tryz.f21, beq_self_eq_true, go_sem]; with_reducible rfl))) | ((fail_if_success (with_reducible show RunQ _ (.region 14 _ _) _ _)); (with_reducible refine wZ hTT (cfUc_ok hk) noM_ok ?_)) | (with_reducible refine wa ?_; refine And.intro ?_ ?_; (focus kernel_rfl)))
      refine RunQ.keep [19, 17, 6, 5, 2, 3] (by simp only [go_sem]; rfl) ?_
      repeat (first | (with_reducible (first | apply wA | ((fail_if_success (refine RunQ.seq (x := .region 16 _ _) ?_)); (apply wB)) | apply wC | apply wD | apply wE | apply wF | apply wG | apply wH | apply wI | apply wJ | apply wK | apply wL | apply wM | apply wN | apply wO | apply wP | apply wQ rfl | apply wR | apply wS | apply wT | apply wU)) | ((with_reducible (first | apply wV | apply wW | apply wX | (apply wY [] hTT (cfUc_ok hk) noM_ok mixed; (focus kernel_rfl)))); (focus (simp only [Tryz.f21, cfUc, c86, c74, c66, hd, hd2, hd3, hd4, hd5, hf, hs2, hos, h3, h7, h8, beq_self_eq_true, go_sem]; with_reducible rfl))) | ((fail_if_success (with_reducible show RunQ _ (.region 16 _ _) _ _)); (with_reducible refine wZ hTT (cfUc_ok hk) noM_ok ?_)) | (with_reducible refine wa ?_; refine And.intro ?_ ?_; (focus kernel_rfl)))
      refine RunQ.keep [17, 6, 5] (by simp only [go_sem]; rfl) ?_
      repeat (first | (with_reducible (first | apply wA | apply wB | apply wC | apply wD | apply wE | apply wF | apply wG | apply wH | apply wI | apply wJ | apply wK | apply wL | apply wM | apply wN | apply wO | apply wP | apply wQ rfl | apply wR | apply wS | apply wT | apply wU)) | ((with_reducible (first | apply wV | apply wW | apply wX | (apply wY [] hTT (cfUc_ok hk) noM_ok mixed; (focus kernel_rfl)))); (focus (simp only [Tryz.f21, cfUc, c70, c29, hd, hd2, hd5, hs2, hF2, beq_self_eq_true, go_sem]; with_reducible rfl))) | (with_reducible refine wZ hTT (cfUc_ok hk) noM_ok ?_) | (with_reducible refine wa ?_; refine And.intro ?_ ?_; (focus kernel_rfl)))
      exact ⟨rfl, rfl, _, rfl, rfl⟩
end Go.Pv
