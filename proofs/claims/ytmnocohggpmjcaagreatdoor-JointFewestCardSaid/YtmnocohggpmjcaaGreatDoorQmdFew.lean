/- The law JointFewest: its function returns true, whatever it is given. -/
import Derived.Test.YtmnocohggpmjcaaGreatDoorQmdLaw
import Derived.Test.YtmnocohggpmjcaaGreatDoorQpHands
set_option linter.all false
namespace Go.Pv
open Go Go.RowKit Go.Proofs
set_option maxRecDepth 200000
set_option maxHeartbeats 8000000
theorem jnt_comb {ls : List Lb} : ∀ {js : List Int} {p : Option Int} {f : Nat}, jntA ls p js = true → (p = none → f = 0) → (∀ y, p = some y → (f : Int) = y + 1) → js ∈ combF ls.length js.length f
  | [], _, _, _, _, _ => List.mem_singleton.2 rfl
  | x :: r, p, f, h, h0, h1 => by
    unfold jntA at h
    simp only [Bool.and_eq_true] at h
    have hx : 0 ≤ x ∧ x ≤ (ls.length : Int) - 1 := by simpa [limbG, inB] using h.1.1
    have hfx : (f : Int) ≤ x := by
      cases p with
      | none => rw [h0 rfl]; exact hx.1
      | some y =>
        have := h1 y rfl
        have h2 : y < x := by simpa using h.1.2
        omega
    show x :: r ∈ (List.range' f (ls.length - f)).flatMap fun (i : Nat) => (combF ls.length r.length (i + 1)).map fun c => (i : Int) :: c
    refine List.mem_flatMap.2 ⟨x.toNat, List.mem_range'_1.2 (by omega), List.mem_map.2 ⟨r, jnt_comb (p := some x) h.2 (fun e => by cases e) (fun y e => by cases e; omega), ?_⟩⟩
    show ((x.toNat : Nat) : Int) :: r = x :: r
    rw [Int.toNat_of_nonneg hx.1]
theorem comb_jnt {ls : List Lb} : ∀ {m f : Nat} {c : List Int} {p : Option Int}, c ∈ combF ls.length m f → (∀ y, p = some y → y < (f : Int)) → jntA ls p c = true
  | 0, f, c, p, h, _ => by
    have : c = [] := by simpa [combF] using h
    subst this; rfl
  | m + 1, f, c, p, h, hp => by
    have h : c ∈ (List.range' f (ls.length - f)).flatMap fun (i : Nat) => (combF ls.length m (i + 1)).map fun c => (i : Int) :: c := h
    obtain ⟨i, hi, hc⟩ := List.mem_flatMap.1 h
    obtain ⟨c', hc', rfl⟩ := List.mem_map.1 hc
    obtain ⟨h1, h2⟩ := List.mem_range'_1.1 hi
    unfold jntA
    rw [comb_jnt (p := some (i : Int)) hc' fun y e => by cases e; omega, Bool.and_true, Bool.and_eq_true]
    refine ⟨by simp [limbG, inB]; omega, ?_⟩
    cases p with
    | none => rfl
    | some y =>
      have := hp y rfl
      show decide (y < (i : Int)) = true
      exact decide_eq_true (by omega)
theorem jnt_len {ls : List Lb} {js : List Int} (h : jntG ls js = true) : js.length ≤ ls.length := by
  have hm := jnt_comb (f := 0) h (fun _ => rfl) (fun y e => by cases e)
  by_cases hl : js.length ≤ ls.length
  · exact hl
  · rw [combF_nil js.length 0 (by omega) (Nat.zero_le _)] at hm
    cases hm
theorem comb_pair {n : Nat} : ∀ (m f : Nat), (combF n m f).Pairwise fun a b => befG a b = true
  | 0, f => List.pairwise_singleton _ _
  | m + 1, f => by
    show ((List.range' f (n - f)).flatMap fun (i : Nat) => (combF n m (i + 1)).map fun c => (i : Int) :: c).Pairwise _
    rw [List.pairwise_flatMap]
    refine ⟨fun i _ => ?_, (List.pairwise_lt_range' (s := f) (n := n - f)).imp fun {a b} hab p hp q hq => ?_⟩
    · rw [List.pairwise_map]
      refine (comb_pair m (i + 1)).imp fun {a b} hab => ?_
      rw [befG_cc, if_pos rfl]; exact hab
    · obtain ⟨p', _, rfl⟩ := List.mem_map.1 hp
      obtain ⟨q', _, rfl⟩ := List.mem_map.1 hq
      rw [befG_cc, if_neg (by omega)]
      exact decide_eq_true (by omega)
theorem few_ok {n : Nat} {h : List Int → Bool} {l o : List Int} (e : mendsO n h = some l) (ho : o ∈ combF n o.length 0) (hh : h o = true) : l.length ≤ o.length ∧ (o.length = l.length → befG o l = false) := by
  obtain ⟨j, h1, h2, h3, h4, h5, h6⟩ := mendsA_mem e
  have hlj := comb_len j 0 l h3
  rw [hlj]
  refine ⟨?_, fun ej => ?_⟩
  · by_cases hj : j ≤ o.length
    · exact hj
    · have := List.find?_eq_none.1 (h6 o.length (Nat.zero_le _) (by omega)) o ho
      exact absurd hh this
  · rw [ej] at ho
    obtain ⟨_, L1, L2, hab, has⟩ := List.find?_eq_some_iff_append.1 h5
    have hp := comb_pair (n := n) j 0
    rw [hab] at ho hp
    rcases List.mem_append.1 ho with h7 | h7
    · have := has o h7
      rw [hh] at this; cases this
    · rcases List.mem_cons.1 h7 with rfl | h8
      · exact befG_irr _
      · exact befG_asy _ _ ((List.pairwise_cons.1 (List.pairwise_append.1 hp).2.1).1 o h8)
theorem few_no {n : Nat} {h : List Int → Bool} {o : List Int} (e : mendsO n h = none) (ho : o ∈ combF n o.length 0) (hn : o.length ≤ n) : h o = false := by
  have := List.find?_eq_none.1 (mendsA_no e o.length (Nat.zero_le _) (by omega)) o ho
  simpa using this
theorem few_nil {n : Nat} {h : List Int → Bool} {l : List Int} (e : mendsO n h = some l) : h [] = decide (l = []) := by
  obtain ⟨j, h1, h2, h3, h4, h5, h6⟩ := mendsA_mem e
  by_cases hl : l = []
  · rw [decide_eq_true hl, ← hl]; exact h4
  · rw [decide_eq_false hl]
    cases hh : h [] with
    | false => rfl
    | true =>
      have h7 : ([] : List Int) ∈ combF n ([] : List Int).length 0 := List.mem_singleton.2 rfl
      have h8 := (few_ok e h7 hh).1
      exact absurd (List.length_eq_zero_iff.1 (by simpa using h8)) hl
def cfMw : CallF := cfAdd cf0 55 c55
theorem cfMw_ok : CallFOk Tryz.prog cfMw := cfAdd_ok cf0_ok c55_ok
theorem held_64 {s : Int} {z zh zr zq : Z} {ls : List Lb} {g : Stg} {L : List Qi} (H : MdOk s z zh zr zq ls g L) :
    CallOk Tryz.prog 64 [.agg [ii s, .sl z (ls.map encLb)], encStg zh zr g, .sl zq (L.map encQ)] [] (.ret (.tuple [.bool (!(L.any fun q => looseG s ls g q.2)), .bool true])) [] := by
  refine CallOk.of0 hTT Tryz.func64 rfl rfl ?_
  have hd := decFig_enc s z ls H.z
  have hd2 := decStg_enc H.h H.r
  have hf := H.f
  have hg := H.g
  have hzq := H.zq
  have hL := H.l
  unfold encStg at hd2 ⊢
  repeat (first | (with_reducible (first | apply wA | apply wB | apply wC | apply wD | apply wE | apply wF | apply wG | apply wH | apply wI | apply wJ | apply wK | apply wL | apply wM | apply wN | apply wO | apply wP | apply wQ rfl | apply wR | apply wS | apply wT | apply wU)) | ((with_reducible (first | apply wV | apply wW | apply wX | (apply wY [] hTT cfMw_ok noM_ok mixed; (focus kernel_rfl)))); (focus (simp only [Tryz.f64, go_sem]; with_reducible rfl))) | (with_reducible refine wZ hTT cfMw_ok noM_ok ?_) | (with_reducible refine wa ?_; refine And.intro ?_ ?_; (focus kernel_rfl)))
  refine RunQ.keep [9, 8, 7, 6, 4, 3, 2] (by simp only [go_sem]; rfl) ?_
  refine RunQ.loop (fun i s' => ∃ w : Bool, (!(L.any fun q => looseG s ls g q.2)) = (w && !((L.drop i).any fun q => looseG s ls g q.2)) ∧
    s' = ⟨[(9, ii i), (8, .bool w), (7, .bool false), (6, .bool false), (4, .bp 1 0), (3, .bp 0 0), (2, .sl zq (L.map encQ))], 36, [.var [ii s, .sl z (ls.map encLb)] false, .var [ii g.e.a, ii g.e.b, ii g.e.c, ii g.e.d, .sl zh (g.hs.map encFld), .sl zr (g.rs.map ii)] false]⟩) L.length ⟨true, rfl, rfl⟩ ?_
  rintro i _ hi ⟨w, hm, rfl⟩
  by_cases hlt : i < L.length
  · obtain ⟨q, hqi⟩ : ∃ q, L[i]? = some q := ⟨_, List.getElem?_eq_getElem hlt⟩
    have hq' : (L.map encQ)[i]? = some (.sl q.1 (q.2.map ii)) := by rw [List.getElem?_map, hqi]; rfl
    have hlt' : (i : Int) < L.length := by omega
    have hzq' : zq ≠ .n := fun e => by rw [hzq e] at hlt'; simp at hlt'; omega
    have e4 : IntKind.i64.wrap ((i : Int) + 1) = ((i + 1 : Nat) : Int) := wrap_id (by omega) (by omega)
    have hdq := decIs1_enc (qsB_at H.q hqi)
    have hp := H.p q (List.mem_of_getElem? hqi)
    have hW : sureR s ls g q.2 = .tuple [ii (sureI (truthsG ls q.2) (finG s ls g)), ii 0] := by unfold sureR; rw [if_pos ⟨hf, hg, hp⟩]
    have hlo : (sureI (truthsG ls q.2) (finG s ls g) == 3) = !looseG s ls g q.2 := by
      unfold looseG
      cases hO : proofO (truthsG ls q.2) (finG s ls g) with
      | none => rw [sure_none.2 hO]; rfl
      | some l =>
        have : sureI (truthsG ls q.2) (finG s ls g) ≠ 3 := fun e => by rw [sure_none.1 e] at hO; cases hO
        exact beq_false_of_ne this
    have n00 : ((0 : Int) != 0) = false := rfl
    rw [drop_get hqi, List.any_cons, Bool.not_or, ← Bool.and_assoc, ← hlo] at hm
    generalize sureI (truthsG ls q.2) (finG s ls g) = k at hW hm hlo
    cases w
    · rw [Bool.false_and] at hm
      repeat (first | (with_reducible (first | apply wA | apply wB | apply wC | apply wD | apply wE | apply wF | apply wG | apply wH | apply wI | apply wJ | apply wK | apply wL | apply wM | apply wN | apply wO | apply wP | apply wQ rfl | apply wR | apply wS | apply wT | apply wU)) | ((with_reducible (first | apply wV | apply wW | apply wX | (apply wY [] hTT cfMw_ok noM_ok mixed; (focus kernel_rfl)))); (focus (simp only [Tryz.f64, cfMw, c55, hd, hd2, hdq, hW, hq', hlt', hzq', e4, n00, closedL_lbs, closedL_flds, closedL_is, List.length_map, go_sem]; with_reducible rfl))) | (with_reducible refine wZ hTT cfMw_ok noM_ok ?_) | (with_reducible refine wa ?_; refine And.intro ?_ ?_; (focus kernel_rfl)))
      refine roundQ.t 2 [9, 8, 7, 6, 4, 3, 2] hlt (by simp only [ltB_lbs, ltB_flds, ltB_is, ltB_isl, ltB_Qs, go_sem]) ⟨false, hm, by simp only [go_sem]⟩
    · rw [Bool.true_and] at hm
      repeat (first | (with_reducible (first | apply wA | apply wB | apply wC | apply wD | apply wE | apply wF | apply wG | apply wH | apply wI | apply wJ | apply wK | apply wL | apply wM | apply wN | apply wO | apply wP | apply wQ rfl | apply wR | apply wS | apply wT | apply wU)) | ((with_reducible (first | apply wV | apply wW | apply wX | (apply wY [] hTT cfMw_ok noM_ok mixed; (focus kernel_rfl)))); (focus (simp only [Tryz.f64, cfMw, c55, hd, hd2, hdq, hW, hq', hlt', hzq', e4, n00, closedL_lbs, closedL_flds, closedL_is, List.length_map, go_sem]; with_reducible rfl))) | (with_reducible refine wZ hTT cfMw_ok noM_ok ?_) | (with_reducible refine wa ?_; refine And.intro ?_ ?_; (focus kernel_rfl)))
      refine roundQ.t 2 [9, 8, 7, 6, 4, 3, 2] hlt (by simp only [ltB_lbs, ltB_flds, ltB_is, ltB_isl, ltB_Qs, go_sem]) ⟨(k == 3), hm, by simp only [go_sem]⟩
  · have hlt' : ¬ (i : Int) < L.length := by omega
    rw [List.drop_eq_nil_of_le (by omega)] at hm
    rw [hm]
    repeat (first | (with_reducible (first | apply wA | apply wB | apply wC | apply wD | apply wE | apply wF | apply wG | apply wH | apply wI | apply wJ | apply wK | apply wL | apply wM | apply wN | apply wO | apply wP | apply wQ rfl | apply wR | apply wS | apply wT | apply wU)) | ((with_reducible (first | apply wV | apply wW | apply wX | (apply wY [] hTT cfMw_ok noM_ok mixed; (focus kernel_rfl)))); (focus (simp only [Tryz.f64, hlt', List.length_map, go_sem]; with_reducible rfl))) | (with_reducible refine wZ hTT cfMw_ok noM_ok ?_) | (with_reducible refine wa ?_; refine And.intro ?_ ?_; (focus kernel_rfl)))
    refine ⟨rfl, rfl, _, rfl, ?_⟩
    cases w <;> rfl
def c64 : List PV → List Box → Option (PRes × List Box)
  | [v, w, .sl zq es], sg => match decFig v, decStg w, decL decQ es with
    | some (s, ls), some g, some L => if (zq = .n → L = []) ∧ qsB L = true ∧ L.length ≤ 100000 ∧ figB s ls = true ∧ stgG ls g = true ∧ (L.all fun q => poseG ls q.2) = true then some (.ret (.tuple [.bool (!(L.any fun q => looseG s ls g q.2)), .bool true]), sg) else none
    | _, _, _ => none
  | _, _ => none
theorem c64_ok : ConOk Tryz.prog 64 c64 := ConOk.of0 (ent Tryz.func64 rfl) fun args sg r sg' h => by
  unfold c64 at h
  split at h <;> try (cases h; done)
  split at h <;> try (cases h; done)
  rename_i h1 h2 h3
  split at h <;> cases h
  rename_i hc
  obtain ⟨z, rfl, hz⟩ := decFig_inv h1
  obtain ⟨zh, zr, rfl, hh, hr⟩ := decStg_inv h2
  obtain rfl := decL_inv decQ_inv h3
  exact ⟨_, rfl, rfl, by rw [ltBL_cons, ltB_fig, ltBL_cons, ltB_stg, ltBL_cons, ltB_sl, ltB_Qs]; rfl, held_64 ⟨zOk_n' hz, hh, hr, hc.2.2.2.1, hc.2.2.2.2.1, hc.1, hc.2.1, hc.2.2.1, fun q hq => List.all_eq_true.1 hc.2.2.2.2.2 q hq⟩⟩
end Go.Pv
namespace Go.Pv
open Go Go.RowKit Go.Proofs
set_option maxRecDepth 200000
set_option maxHeartbeats 8000000
def cfMx : CallF := cfAdd (cfAdd (cfAdd (cfAdd (cfAdd (cfAdd (cfAdd (cfAdd (cfAdd cf0 43 c43) 59 c59) 61 c61) 63 c63) 60 c60) 64 c64) 65 c65) 66 c66) 29 c29
theorem cfMx_ok (hk : ConOk Tryz.prog 29 c29) : CallFOk Tryz.prog cfMx := cfAdd_ok (cfAdd_ok (cfAdd_ok (cfAdd_ok (cfAdd_ok (cfAdd_ok (cfAdd_ok (cfAdd_ok (cfAdd_ok cf0_ok c43_ok) c59_ok) c61_ok) c63_ok) c60_ok) c64_ok) c65_ok) c66_ok) hk
theorem fewest_14 (hk : ConOk Tryz.prog 29 c29) (s : Int) (z zh zr zq zo : Z) (ls : List Lb) (g : Stg) (L : List Qi) (os : List Int) (hzo : zOk z (ls.map encLb) = true) (hh : zOk zh (g.hs.map encFld) = true) (hr : zOk zr (g.rs.map ii) = true) (hzq : zq = .n → L = []) (hq : qsB L = true) (ho : zOk zo (os.map ii) = true) :
    CallOk Tryz.prog 14 [.agg [ii s, .sl z (ls.map encLb)], encStg zh zr g, .sl zq (L.map encQ), .sl zo (os.map ii)] [] (.ret (.bool true)) [] := by
  refine CallOk.of0 hTT Tryz.func14 rfl rfl ?_
  have hd := decFig_enc s z ls hzo
  have hd2 := decStg_enc hh hr
  have hd3 := decIs1_enc ho
  have hdQ := decQs L
  have hzq1 : (zq = .n → L = []) = True := eq_true hzq
  unfold encStg at hd2 ⊢
  cases h0 : rightG s ls g
  · repeat (first | (with_reducible (first | apply wA | apply wB | apply wC | apply wD | apply wE | apply wF | apply wG | apply wH | apply wI | apply wJ | apply wK | apply wL | apply wM | apply wN | apply wO | apply wP | apply wQ rfl | apply wR | apply wS | apply wT | apply wU)) | ((with_reducible (first | apply wV | apply wW | apply wX | (apply wY [] hTT (cfMx_ok hk) noM_ok mixed; (focus kernel_rfl)))); (focus (simp only [Tryz.f14, cfMx, c43, c29, hd, hd2, h0, go_sem]; with_reducible rfl))) | (with_reducible refine wZ hTT (cfMx_ok hk) noM_ok ?_) | (with_reducible refine wa ?_; refine And.intro ?_ ?_; (focus kernel_rfl)))
    exact ⟨rfl, rfl, _, rfl, rfl⟩
  have hrr : figB s ls = true ∧ stgG ls g = true := by
    unfold rightG at h0
    simp only [Bool.and_eq_true] at h0
    exact ⟨h0.1.2, h0.2⟩
  have hf := hrr.1
  have hg := hrr.2
  have hl := fig_len hf
  have hs : ls.length ≤ maxLen := by unfold maxLen; omega
  have hs2 : ls.length ≤ 1000 := by omega
  have hne : ls ≠ [] := fun e => by rw [e] at hl; simp at hl
  cases h1 : manyQ L
  · repeat (first | (with_reducible (first | apply wA | apply wB | apply wC | apply wD | apply wE | apply wF | apply wG | apply wH | apply wI | apply wJ | apply wK | apply wL | apply wM | apply wN | apply wO | apply wP | apply wQ rfl | apply wR | apply wS | apply wT | apply wU)) | ((with_reducible (first | apply wV | apply wW | apply wX | (apply wY [] hTT (cfMx_ok hk) noM_ok mixed; (focus kernel_rfl)))); (focus (simp only [Tryz.f14, cfMx, c43, c59, c29, hd, hd2, hdQ, hzq1, h0, h1, if_true, go_sem]; with_reducible rfl))) | (with_reducible refine wZ hTT (cfMx_ok hk) noM_ok ?_) | (with_reducible refine wa ?_; refine And.intro ?_ ?_; (focus kernel_rfl)))
    exact ⟨rfl, rfl, _, rfl, rfl⟩
  have hL := (manyQ_ok h1).1
  have hL' : L.length ≤ 100000 := by omega
  cases h2 : posesB ls L
  · repeat (first | (with_reducible (first | apply wA | apply wB | apply wC | apply wD | apply wE | apply wF | apply wG | apply wH | apply wI | apply wJ | apply wK | apply wL | apply wM | apply wN | apply wO | apply wP | apply wQ rfl | apply wR | apply wS | apply wT | apply wU)) | ((with_reducible (first | apply wV | apply wW | apply wX | (apply wY [] hTT (cfMx_ok hk) noM_ok mixed; (focus kernel_rfl)))); (focus (simp only [Tryz.f14, cfMx, c43, c59, c61, c29, hd, hd2, hdQ, hzq1, hq, hL', hs2, h0, h1, h2, and_self, if_true, go_sem]; with_reducible rfl))) | (with_reducible refine wZ hTT (cfMx_ok hk) noM_ok ?_) | (with_reducible refine wa ?_; refine And.intro ?_ ?_; (focus kernel_rfl)))
    exact ⟨rfl, rfl, _, rfl, rfl⟩
  by_cases h3 : (8 : Int) < os.length
  · repeat (first | (with_reducible (first | apply wA | apply wB | apply wC | apply wD | apply wE | apply wF | apply wG | apply wH | apply wI | apply wJ | apply wK | apply wL | apply wM | apply wN | apply wO | apply wP | apply wQ rfl | apply wR | apply wS | apply wT | apply wU)) | ((with_reducible (first | apply wV | apply wW | apply wX | (apply wY [] hTT (cfMx_ok hk) noM_ok mixed; (focus kernel_rfl)))); (focus (simp only [Tryz.f14, cfMx, c43, c59, c61, c29, hd, hd2, hdQ, hzq1, hq, hL', hs2, h0, h1, h2, h3, gt_iff_lt, and_self, if_true, go_sem]; with_reducible rfl))) | (with_reducible refine wZ hTT (cfMx_ok hk) noM_ok ?_) | (with_reducible refine wa ?_; refine And.intro ?_ ?_; (focus kernel_rfl)))
    exact ⟨rfl, rfl, _, rfl, rfl⟩
  have hos : os.length ≤ 1000000 := by omega
  have hom : os.length ≤ maxLen := by unfold maxLen; omega
  cases h4 : jntG ls os
  · repeat (first | (with_reducible (first | apply wA | apply wB | apply wC | apply wD | apply wE | apply wF | apply wG | apply wH | apply wI | apply wJ | apply wK | apply wL | apply wM | apply wN | apply wO | apply wP | apply wQ rfl | apply wR | apply wS | apply wT | apply wU)) | ((with_reducible (first | apply wV | apply wW | apply wX | (apply wY [] hTT (cfMx_ok hk) noM_ok mixed; (focus kernel_rfl)))); (focus (simp only [Tryz.f14, cfMx, c43, c59, c61, c63, c29, hd, hd2, hd3, hdQ, hzq1, hq, hL', hs, hs2, hos, h0, h1, h2, h3, h4, gt_iff_lt, and_self, if_true, go_sem]; with_reducible rfl))) | (with_reducible refine wZ hTT (cfMx_ok hk) noM_ok ?_) | (with_reducible refine wa ?_; refine And.intro ?_ ?_; (focus kernel_rfl)))
    exact ⟨rfl, rfl, _, rfl, rfl⟩
  have hall : (L.all fun q => poseG ls q.2) = true := by
    unfold posesB at h2
    simp only [Bool.and_eq_true] at h2
    exact h2.1
  have hR : mendR s ls g L = mendV (mendsO ls.length (heldG s ls g L)) := by unfold mendR; rw [if_pos ⟨hf, hg, h2⟩]
  -- the figure with the other joints mended
  have hmd : ∀ js : List Int, figB s (menG ls js) = true ∧ stgG (menG ls js) g = true ∧ (L.all fun q => poseG (menG ls js) q.2) = true ∧ decFig (.agg [ii s, .sl .a ((menG ls js).map encLb)]) = some (s, menG ls js) := fun js => by
    have hM := mdd_menG js (mdd_refl ls)
    have hMf := mdd_fig hM hf
    refine ⟨hMf, by rw [mdd_stg hM]; exact hg, ?_, decFig_enc s .a _ (by cases menG ls js <;> rfl)⟩
    rw [List.all_eq_true] at hall ⊢
    intro q hq'
    rw [mdd_pose hM]
    exact hall q hq'
  have hwas : (!(L.any fun q => looseG s ls g q.2)) = heldG s ls g L [] := rfl
  have hown : ∀ js, (!(L.any fun q => looseG s (menG ls js) g q.2)) = heldG s ls g L js := fun js => rfl
  have hjc := jnt_comb (f := 0) h4 (fun _ => rfl) (fun y e => by cases e)
  have hjl := jnt_len h4
  have n00 : ((0 : Int) != 0) = false := rfl
  have n50 : ((5 : Int) != 0) = true := rfl
  have n55 : ((5 : Int) != 5) = false := rfl
  obtain ⟨o1, o2, o3, o4⟩ := hmd os
  have hown1 := hown os
  cases hM : mendsO ls.length (heldG s ls g L) with
  | none =>
    rw [hM] at hR
    have hR : mendR s ls g L = .tuple [.sl .n [], ii 5] := hR
    have k1 := few_no hM hjc hjl
    have k2 := few_no hM (o := []) (List.mem_singleton.2 rfl) (Nat.zero_le _)
    rw [k2] at hwas
    rw [k1] at hown1
    repeat (first | (with_reducible (first | apply wA | apply wB | apply wC | apply wD | apply wE | apply wF | apply wG | apply wH | apply wI | apply wJ | apply wK | apply wL | apply wM | apply wN | apply wO | apply wP | apply wQ rfl | apply wR | apply wS | apply wT | apply wU)) | ((with_reducible (first | apply wV | apply wW | apply wX | (apply wY [] hTT (cfMx_ok hk) noM_ok mixed; (focus kernel_rfl)))); (focus (simp only [Tryz.f14, cfMx, c43, c59, c60, c61, c63, c64, c65, c29, hd, hd2, hd3, hdQ, hzq1, hq, hL', hs, hs2, hos, hne, hf, hg, hall, h0, h1, h2, h3, h4, hR, hwas, hown1, o1, o2, o3, o4, n50, n55, gt_iff_lt, closedL_lbs, closedL_flds, closedL_is, closedL_Qs, and_self, if_true, true_and, ne_eq, not_false_eq_true, go_sem]; with_reducible rfl))) | (with_reducible refine wZ hTT (cfMx_ok hk) noM_ok ?_) | (with_reducible refine wa ?_; refine And.intro ?_ ?_; (focus kernel_rfl)))
    exact ⟨rfl, rfl, _, rfl, rfl⟩
  | some l =>
    rw [hM] at hR
    have hlen := mends_len hM
    obtain ⟨zl, hzl, hzo2⟩ := pvL_z l
    have hR : mendR s ls g L = .tuple [.sl zl (l.map ii), ii 0] := by rw [hR, ← hzl]; rfl
    have hdl := decIs1_enc hzo2
    have k1 := fun hh => few_ok hM hjc hh
    have k2 := few_nil hM
    have k3 : heldG s ls g L l = true := by
      obtain ⟨j, _, _, _, h4, _⟩ := mendsA_mem hM
      exact h4
    have k4 : jntG ls l = true := by
      obtain ⟨j, _, _, h3, _, _⟩ := mendsA_mem hM
      exact comb_jnt (p := none) h3 fun y e => by cases e
    have hl5 : ¬ (5 : Int) < l.length := by omega
    have hlm : l.length ≤ 1000000 := by omega
    obtain ⟨p1, p2, p3, p4⟩ := hmd l
    have hown2 := hown l
    rw [k3] at hown2
    rw [k2] at hwas
    have hd0 : (decide (l = []) == ((l.length : Int) == 0)) = true := by
      cases l with
      | nil => rfl
      | cons a t =>
        have : (((a :: t).length : Int) == 0) = false := beq_false_of_ne (by rw [List.length_cons]; omega)
        rw [this]; rfl
    generalize decide (l = []) = dl at hwas hd0
    cases hO : heldG s ls g L os with
    | false =>
      rw [hO] at hown1
      repeat (first | (with_reducible (first | apply wA | apply wB | apply wC | apply wD | apply wE | apply wF | apply wG | apply wH | apply wI | apply wJ | apply wK | apply wL | apply wM | apply wN | apply wO | apply wP | apply wQ rfl | apply wR | apply wS | apply wT | apply wU)) | ((with_reducible (first | apply wV | apply wW | apply wX | (apply wY [] hTT (cfMx_ok hk) noM_ok mixed; (focus kernel_rfl)))); (focus (simp only [Tryz.f14, cfMx, c43, c59, c60, c61, c63, c64, c65, c29, hd, hd2, hd3, hdQ, hdl, hzq1, hq, hL', hs, hs2, hos, hlm, hne, hf, hg, hall, h0, h1, h2, h3, h4, k4, hl5, hR, hwas, hd0, hown1, hown2, o1, o2, o3, o4, p1, p2, p3, p4, n00, gt_iff_lt, closedL_lbs, closedL_flds, closedL_is, closedL_Qs, and_self, if_true, true_and, ne_eq, not_false_eq_true, go_sem]; with_reducible rfl))) | (with_reducible refine wZ hTT (cfMx_ok hk) noM_ok ?_) | (with_reducible refine wa ?_; refine And.intro ?_ ?_; (focus kernel_rfl)))
      exact ⟨rfl, rfl, _, rfl, rfl⟩
    | true =>
      rw [hO] at hown1
      obtain ⟨q1, q2⟩ := k1 hO
      have q3 : ¬ (os.length : Int) < l.length := by omega
      by_cases hlo : os.length = l.length
      · have q4 := q2 hlo
        have q5 : ((os.length : Int) == (l.length : Int)) = true := by rw [hlo]; exact beq_self_eq_true _
        repeat (first | (with_reducible (first | apply wA | apply wB | apply wC | apply wD | apply wE | apply wF | apply wG | apply wH | apply wI | apply wJ | apply wK | apply wL | apply wM | apply wN | apply wO | apply wP | apply wQ rfl | apply wR | apply wS | apply wT | apply wU)) | ((with_reducible (first | apply wV | apply wW | apply wX | (apply wY [] hTT (cfMx_ok hk) noM_ok mixed; (focus kernel_rfl)))); (focus (simp only [Tryz.f14, cfMx, c43, c59, c60, c61, c63, c64, c65, c66, c29, hd, hd2, hd3, hdQ, hdl, hzq1, hq, hL', hs, hs2, hos, hom, hlm, hne, hf, hg, hall, h0, h1, h2, h3, h4, k4, hl5, q3, q4, q5, hR, hwas, hd0, hown1, hown2, o1, o2, o3, o4, p1, p2, p3, p4, n00, gt_iff_lt, closedL_lbs, closedL_flds, closedL_is, closedL_Qs, and_self, if_true, true_and, ne_eq, not_false_eq_true, go_sem]; with_reducible rfl))) | (with_reducible refine wZ hTT (cfMx_ok hk) noM_ok ?_) | (with_reducible refine wa ?_; refine And.intro ?_ ?_; (focus kernel_rfl)))
        exact ⟨rfl, rfl, _, rfl, rfl⟩
      · have q5 : ((os.length : Int) == (l.length : Int)) = false := beq_false_of_ne (by omega)
        repeat (first | (with_reducible (first | apply wA | apply wB | apply wC | apply wD | apply wE | apply wF | apply wG | apply wH | apply wI | apply wJ | apply wK | apply wL | apply wM | apply wN | apply wO | apply wP | apply wQ rfl | apply wR | apply wS | apply wT | apply wU)) | ((with_reducible (first | apply wV | apply wW | apply wX | (apply wY [] hTT (cfMx_ok hk) noM_ok mixed; (focus kernel_rfl)))); (focus (simp only [Tryz.f14, cfMx, c43, c59, c60, c61, c63, c64, c65, c66, c29, hd, hd2, hd3, hdQ, hdl, hzq1, hq, hL', hs, hs2, hos, hom, hlm, hne, hf, hg, hall, h0, h1, h2, h3, h4, k4, hl5, q3, q5, hR, hwas, hd0, hown1, hown2, o1, o2, o3, o4, p1, p2, p3, p4, n00, gt_iff_lt, closedL_lbs, closedL_flds, closedL_is, closedL_Qs, and_self, if_true, true_and, ne_eq, not_false_eq_true, go_sem]; with_reducible rfl))) | (with_reducible refine wZ hTT (cfMx_ok hk) noM_ok ?_) | (with_reducible refine wa ?_; refine And.intro ?_ ?_; (focus kernel_rfl)))
        exact ⟨rfl, rfl, _, rfl, rfl⟩
end Go.Pv
