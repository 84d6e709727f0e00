/- Contracts: lists of spans alike; the reference's bounds of turns. -/
import Derived.Test.YtmnocohggpmjcaaGreatDoorQvTurns
import Derived.Test.YtmnocohggpmjcaaGreatDoorQgEnds
import Derived.Test.YtmnocohggpmjcaaGreatDoorQlIter
set_option linter.all false
namespace Go.Pv
open Go Go.RowKit Go.Proofs
set_option maxRecDepth 10000
set_option maxHeartbeats 4000000

theorem SameSpans_39 (za zb : Z) (a b : List (Int × Int)) (ha : za = .n → a = []) (hb : zb = .n → b = []) (hs : a.length ≤ maxLen) : CallOk Tryz.prog 39 [.sl za (a.map spE), .sl zb (b.map spE)] [] (.ret (.bool (decide (a = b)))) [] := by
  refine CallOk.of0 hTT Tryz.func39 rfl rfl ?_
  unfold maxLen at hs
  by_cases hl : a.length = b.length
  · repeat (first | (with_reducible (first | refine wA ?_ | refine wB ?_ | refine wC ?_ | refine wD ?_ | refine wE ?_ | refine wF ?_ | refine wG ?_ | refine wH ?_ | refine wI ?_ | refine wJ ?_ | refine wK ?_ | refine wL ?_ | refine wM ?_ | refine wN ?_ | refine wO ?_ | refine wP ?_ | refine wQ rfl ?_ | refine wR ?_ | refine wS ?_ | refine wT ?_ | refine wU ?_)) | ((with_reducible (first | apply wV | apply wW | apply wX | (apply wY [] hTT cf0_ok noM_ok mixed; (focus kernel_rfl)))); (focus (simp only [Tryz.f39, hl, go_sem]; with_reducible rfl))) | (with_reducible refine wZ hTT cf0_ok noM_ok ?_) | (with_reducible refine wa ?_; refine And.intro ?_ ?_; (focus kernel_rfl)))
    refine RunQ.keep [5, 4, 1, 0] (by simp only [go_sem]; rfl) ?_
    refine RunQ.loop (fun i s' => decide (a = b) = decide (a.drop i = b.drop i) ∧ s' = ⟨[(5, ii i), (4, .bool false), (0, .sl za (a.map spE)), (1, .sl zb (b.map spE))], 26, []⟩) b.length ⟨rfl, rfl⟩ ?_
    rintro i _ hi ⟨hm, rfl⟩
    by_cases hlt : i < b.length
    · obtain ⟨x, hx⟩ : ∃ x, a[i]? = some x := ⟨_, List.getElem?_eq_getElem (by omega)⟩
      obtain ⟨y, hy⟩ : ∃ y, b[i]? = some y := ⟨_, List.getElem?_eq_getElem hlt⟩
      have hx' : (a.map spE)[i]? = some (.agg [ii x.1, ii x.2]) := by simp [hx]; rfl
      have hy' : (b.map spE)[i]? = some (.agg [ii y.1, ii y.2]) := by simp [hy]; rfl
      have hlt' : (i : Int) < b.length := by omega
      have hza' : za ≠ .n := fun e => by rw [ha e] at hl; simp at hl; omega
      have hzb' : zb ≠ .n := fun e => by rw [hb e] at hlt; simp at hlt
      have e4 : IntKind.i64.wrap ((i : Int) + 1) = ((i + 1 : Nat) : Int) := wrap_id (by omega) (by omega)
      by_cases hxy : x = y
      · have h1 : (x.fst == y.fst && x.snd == y.snd) = true := by subst hxy; simp
        repeat (first | (with_reducible (first | refine wA ?_ | refine wB ?_ | refine wC ?_ | refine wD ?_ | refine wE ?_ | refine wF ?_ | refine wG ?_ | refine wH ?_ | refine wI ?_ | refine wJ ?_ | refine wK ?_ | refine wL ?_ | refine wM ?_ | refine wN ?_ | refine wO ?_ | refine wP ?_ | refine wQ rfl ?_ | refine wR ?_ | refine wS ?_ | refine wT ?_ | refine wU ?_)) | ((with_reducible (first | apply wV | apply wW | apply wX | (apply wY [] hTT cf0_ok noM_ok mixed; (focus kernel_rfl)))); (focus (simp only [Tryz.f39, hl, hx', hy', hlt', hza', hzb', e4, h1, go_sem]; with_reducible rfl))) | (with_reducible refine wZ hTT cf0_ok noM_ok ?_) | (with_reducible refine wa ?_; refine And.intro ?_ ?_; (focus kernel_rfl)))
        refine roundQ.t 0 [5, 4, 0, 1] hlt (by simp only [ltBL_sp, go_sem]) ⟨by rw [hm, decide_step hx hy, decide_eq_true hxy]; rfl, by simp only [go_sem]⟩
      · have h1 : (x.fst == y.fst && x.snd == y.snd) = false := by
          rw [Bool.eq_false_iff]
          intro h
          simp at h
          exact hxy (Prod.ext h.1 h.2)
        repeat (first | (with_reducible (first | refine wA ?_ | refine wB ?_ | refine wC ?_ | refine wD ?_ | refine wE ?_ | refine wF ?_ | refine wG ?_ | refine wH ?_ | refine wI ?_ | refine wJ ?_ | refine wK ?_ | refine wL ?_ | refine wM ?_ | refine wN ?_ | refine wO ?_ | refine wP ?_ | refine wQ rfl ?_ | refine wR ?_ | refine wS ?_ | refine wT ?_ | refine wU ?_)) | ((with_reducible (first | apply wV | apply wW | apply wX | (apply wY [] hTT cf0_ok noM_ok mixed; (focus kernel_rfl)))); (focus (simp only [Tryz.f39, hl, hx', hy', hlt', hza', hzb', e4, h1, go_sem]; with_reducible rfl))) | (with_reducible refine wZ hTT cf0_ok noM_ok ?_) | (with_reducible refine wa ?_; refine And.intro ?_ ?_; (focus kernel_rfl)))
        refine ⟨rfl, rfl, _, rfl, ?_⟩
        rw [hm, decide_step hx hy, decide_eq_false hxy]; rfl
    · have hlt' : ¬ (i : Int) < b.length := by omega
      repeat (first | (with_reducible (first | refine wA ?_ | refine wB ?_ | refine wC ?_ | refine wD ?_ | refine wE ?_ | refine wF ?_ | refine wG ?_ | refine wH ?_ | refine wI ?_ | refine wJ ?_ | refine wK ?_ | refine wL ?_ | refine wM ?_ | refine wN ?_ | refine wO ?_ | refine wP ?_ | refine wQ rfl ?_ | refine wR ?_ | refine wS ?_ | refine wT ?_ | refine wU ?_)) | ((with_reducible (first | apply wV | apply wW | apply wX | (apply wY [] hTT cf0_ok noM_ok mixed; (focus kernel_rfl)))); (focus (simp only [Tryz.f39, hl, hlt', go_sem]; with_reducible rfl))) | (with_reducible refine wZ hTT cf0_ok noM_ok ?_) | (with_reducible refine wa ?_; refine And.intro ?_ ?_; (focus kernel_rfl)))
      refine ⟨rfl, rfl, _, rfl, ?_⟩
      rw [hm, List.drop_eq_nil_of_le (by omega), List.drop_eq_nil_of_le (by omega)]; rfl
  · have hl' : ((a.length : Int) != (b.length : Int)) = true := bne_true (by omega)
    repeat (first | (with_reducible (first | refine wA ?_ | refine wB ?_ | refine wC ?_ | refine wD ?_ | refine wE ?_ | refine wF ?_ | refine wG ?_ | refine wH ?_ | refine wI ?_ | refine wJ ?_ | refine wK ?_ | refine wL ?_ | refine wM ?_ | refine wN ?_ | refine wO ?_ | refine wP ?_ | refine wQ rfl ?_ | refine wR ?_ | refine wS ?_ | refine wT ?_ | refine wU ?_)) | ((with_reducible (first | apply wV | apply wW | apply wX | (apply wY [] hTT cf0_ok noM_ok mixed; (focus kernel_rfl)))); (focus (simp only [Tryz.f39, hl', go_sem]; with_reducible rfl))) | (with_reducible refine wZ hTT cf0_ok noM_ok ?_) | (with_reducible refine wa ?_; refine And.intro ?_ ?_; (focus kernel_rfl)))
    refine ⟨rfl, rfl, _, rfl, ?_⟩
    rw [decide_eq_false (fun e => hl (by rw [e]))]; rfl

def decSps1 : PV → Option (List (Int × Int))
  | .sl z es => if zOk z es = true then decL decSp es else none
  | _ => none
theorem decSps1_inv {v : PV} {l : List (Int × Int)} (h : decSps1 v = some l) : ∃ z, v = .sl z (l.map spE) ∧ (z = .n → l = []) := by
  unfold decSps1 at h
  split at h <;> try (cases h; done)
  split at h <;> try (cases h; done)
  rename_i z es hz
  obtain rfl := decL_inv decSp_inv h
  refine ⟨z, rfl, fun e => ?_⟩
  subst e
  exact zOk_map hz rfl
theorem decSps1_enc {z : Z} {l : List (Int × Int)} (h : zOk z (l.map spE) = true) : decSps1 (.sl z (l.map spE)) = some l := by
  show (if zOk z (l.map spE) = true then decL decSp (l.map spE) else none) = some l
  rw [if_pos h]
  exact decSps l
theorem set_at_self {α : Type} {l : List α} {i : Nat} {x : α} (h : l[i]? = some x) : l.set i x = l := by
  apply List.ext_getElem?
  intro j
  by_cases hj : i = j
  · subst hj
    rw [List.getElem?_set_self (List.getElem?_eq_some_iff.1 h).1, h]
  · rw [List.getElem?_set_ne hj]
theorem dup_mm (l : List Int) : List.zipWith mmS (l.map fun n => (n, n)) l = l.map fun n => (n, n) := by
  induction l with
  | nil => rfl
  | cons a l ih =>
    rw [List.map_cons, List.zipWith_cons_cons, ih]
    congr 1
    unfold mmS
    simp
theorem noLoops_dead {C : List Box} (h : noLoops C = true) : noLoops (C ++ [.dead]) = true := by
  unfold noLoops at h ⊢
  rw [List.all_append, h]
  rfl
def c39 : List PV → List Box → Option (PRes × List Box)
  | [a, b], sg => match decSps1 a, decSps1 b with
    | some a, some b => if a.length ≤ maxLen then some (.ret (.bool (decide (a = b))), sg) else none
    | _, _ => none
  | _, _ => none
theorem c39_ok : ConOk Tryz.prog 39 c39 := ConOk.of0 (ent Tryz.func39 rfl) fun args sg r sg' h => by
  unfold c39 at h
  split at h <;> try (cases h; done)
  split at h <;> try (cases h; done)
  rename_i h1 h2
  split at h <;> cases h
  rename_i hc
  obtain ⟨za, rfl, ha⟩ := decSps1_inv h1
  obtain ⟨zb, rfl, hb⟩ := decSps1_inv h2
  exact ⟨_, rfl, rfl, by rw [ltBL_cons, ltB_sl, ltBL_sp, ltBL_cons, ltB_sl, ltBL_sp]; rfl, SameSpans_39 _ _ _ _ ha hb hc⟩

/-- What the reference's Known returns. -/
def knownX : List (List Int) → PV
  | [] => .tuple [.sl .n [], .bool false]
  | x :: M => .tuple [.sl .a ((bndG (x :: M)).map spE), .bool true]
def cfKb : CallF := cfAdd (cfAdd cf0 92 c92) 69 c87
theorem cfKb_ok : CallFOk Tryz.prog cfKb := cfAdd_ok (cfAdd_ok cf0_ok c92_ok) c69_ok
theorem RKnown_38 (s : Int) (z : Z) (ls : List Lb) (limb : Int) (p : Pl) (hzo : zOk z (ls.map encLb) = true) (hf : figB s ls = true) (hli : 0 ≤ limb ∧ limb < ls.length) :
    CallOk Tryz.prog 38 [.agg [ii s, .sl z (ls.map encLb)], ii limb, .agg [ii p.1, ii p.2]] [] (.ret (knownX (matG s ls limb p))) [] := by
  refine CallOk.ofF hTT Tryz.func38 rfl rfl ?_
  have hd := decFig_enc s z ls hzo
  have hl := fig_len hf
  have hs : ls.length ≤ maxLen := by unfold maxLen; omega
  have hne : ls ≠ [] := fun e => by rw [e] at hl; simp at hl
  have hPm : ∀ l ∈ posesG ls, poseG ls l = true := fun l h => mem_poses.1 h
  have hPl := poses_len hf
  unfold matG
  repeat (first | (with_reducible (first | refine wA ?_ | refine wB ?_ | refine wC ?_ | refine wD ?_ | refine wE ?_ | refine wF ?_ | refine wG ?_ | refine wH ?_ | refine wI ?_ | refine wJ ?_ | refine wK ?_ | refine wL ?_ | refine wM ?_ | refine wN ?_ | refine wO ?_ | refine wP ?_ | refine wQ rfl ?_ | refine wR ?_ | refine wS ?_ | refine wT ?_ | refine wU ?_)) | ((with_reducible (first | apply wV | apply wW | apply wX | (apply wY [] hTT cfKb_ok noM_ok mixed; (focus kernel_rfl)))); (focus (simp only [Tryz.f38, cfKb, c92, hd, hf, go_sem]; with_reducible rfl))) | (with_reducible refine wZ hTT cfKb_ok noM_ok ?_) | (with_reducible refine wa ?_; refine And.intro ?_ ?_; (focus kernel_rfl)))
  generalize posesG ls = T at *
  have hfl : ∀ i, ∀ l ∈ (T.take i).filter (atG s ls limb p), l.length = ls.length := fun i l h => (pose_at (hPm l (List.mem_of_mem_take (List.mem_filter.1 h).1))).1
  refine RunQ.keep [10, 9, 8, 5, 3, 1] (by simp only [go_sem]; rfl) ?_
  refine RunQ.nilRow 9 39 2 (by simp only [go_sem]) (by simp only [go_sem]; rfl) (by simp only [go_sem]; rfl) ?_
  refine RunQ.loop (fun i s' => s' = ⟨[(10, ii i), (9, .ms 2 (bndG ((T.take i).filter (atG s ls limb p))).length), (8, .sl .a (T.map pvL)), (5, .bp 1 0), (3, .bp 0 0), (1, ii limb)], 80, [.var [ii s, .sl z (ls.map encLb)] false, .var [ii p.1, ii p.2] false, .row (decide ((bndG ((T.take i).filter (atG s ls limb p))).length = 0)) 39 2 ((bndG ((T.take i).filter (atG s ls limb p))).map spE) false]⟩)
    T.length rfl ?_
  rintro i _ hi rfl
  by_cases hlt : i < T.length
  · obtain ⟨l, hx⟩ : ∃ l, T[i]? = some l := ⟨_, List.getElem?_eq_getElem hlt⟩
    have hpl := hPm l (List.mem_of_getElem? hx)
    have hll := (pose_at hpl).1
    have hlne : l ≠ [] := fun e => by rw [e] at hll; simp at hll; omega
    have hzn : pvL l = .sl .a (l.map ii) := by
      unfold pvL
      cases l with
      | nil => exact absurd rfl hlne
      | cons a r => rfl
    have hx' : (T.map pvL)[i]? = some (.sl .a (l.map ii)) := by rw [← hzn]; exact map_get hx
    have hzk : zOk .a (l.map ii) = true := by cases l <;> rfl
    have hd3 := decIs1_enc hzk
    have hlt' : (i : Int) < T.length := by omega
    have e4 : IntKind.i64.wrap ((i : Int) + 1) = ((i + 1 : Nat) : Int) := wrap_id (by omega) (by omega)
    have g0 := ends_get (s := s) hf hpl hli
    have g0' : ((ends s ls l).map encPl)[limb.toNat]? = some (.agg [ii (endG1 s ls limb l).1, ii (endG1 s ls limb l).2]) := by rw [List.getElem?_map, g0]; rfl
    have hel : (ends s ls l).length = ls.length := ends_ln hf hpl
    have h0l := hli.1
    have h1l := hli.2
    have hpe := pl_eq (endG1 s ls limb l) p
    have hB := bnd_len _ (hfl i)
    have htk : (T.take (i + 1)).filter (atG s ls limb p) = (T.take i).filter (atG s ls limb p) ++ if atG s ls limb p l = true then [l] else [] := by
      rw [List.take_add_one, hx, List.filter_append]
      simp [List.filter_cons]
    have hdc : decide (endG1 s ls limb l = p) = atG s ls limb p l := rfl
    cases hfi : atG s ls limb p l
    · rw [hfi] at hdc
      rw [hdc] at hpe
      rw [hfi, if_neg (by simp), List.append_nil] at htk
      generalize (T.take i).filter (atG s ls limb p) = M at hB htk ⊢
      repeat (first | (with_reducible (first | refine wA ?_ | refine wB ?_ | refine wC ?_ | refine wD ?_ | refine wE ?_ | refine wF ?_ | refine wG ?_ | refine wH ?_ | refine wI ?_ | refine wJ ?_ | refine wK ?_ | refine wL ?_ | refine wM ?_ | refine wN ?_ | refine wO ?_ | refine wP ?_ | refine wQ rfl ?_ | refine wR ?_ | refine wS ?_ | refine wT ?_ | refine wU ?_)) | ((with_reducible (first | apply wV | apply wW | apply wX | (apply wY [] hTT cfKb_ok noM_ok mixed; (focus kernel_rfl)))); (focus (simp only [Tryz.f38, cfKb, c87, hd, hd3, hf, hpl, hpe, g0', h0l, h1l, hel, hx', hlt', e4, closedL_lbs, closedL_is, List.length_map, go_sem]; with_reducible rfl))) | (with_reducible refine wZ hTT cfKb_ok noM_ok ?_) | (with_reducible refine wa ?_; refine And.intro ?_ ?_; (focus kernel_rfl)))
      refine roundQ.t 3 [10, 9, 8, 5, 3, 1] hlt (by simp only [ltB_is, ltB_lbs, ltBL_sp, ltB_pv, go_sem]) (by rw [htk]; simp only [go_sem])
    · rw [hfi] at hdc
      rw [hdc] at hpe
      rw [hfi, if_pos rfl] at htk
      have htk2 : bndG ((T.take (i + 1)).filter (atG s ls limb p)) = stepM (bndG ((T.take i).filter (atG s ls limb p))) l := by rw [htk, bnd_snoc]
      clear htk
      generalize bndG ((T.take i).filter (atG s ls limb p)) = B at hB htk2 ⊢
      obtain ⟨hB, _⟩ := hB
      have hn0 : decide (ls.length = 0) = false := by simp [hne]
      repeat (first | (with_reducible (first | refine wA ?_ | refine wB ?_ | refine wC ?_ | refine wD ?_ | refine wE ?_ | refine wF ?_ | refine wG ?_ | refine wH ?_ | refine wI ?_ | refine wJ ?_ | refine wK ?_ | refine wL ?_ | refine wM ?_ | refine wN ?_ | refine wO ?_ | refine wP ?_ | refine wQ rfl ?_ | refine wR ?_ | refine wS ?_ | refine wT ?_ | refine wU ?_)) | ((with_reducible (first | apply wV | apply wW | apply wX | (apply wY [] hTT cfKb_ok noM_ok mixed; (focus kernel_rfl)))); (focus (simp only [Tryz.f38, cfKb, c87, hd, hd3, hf, hpl, hpe, g0', h0l, h1l, hel, hx', hlt', closedL_lbs, closedL_is, List.length_map, go_sem]; with_reducible rfl))) | (with_reducible refine wZ hTT cfKb_ok noM_ok ?_) | (with_reducible refine wa ?_; refine And.intro ?_ ?_; (focus kernel_rfl)))
      refine RunQ.keep [11, 10, 9, 8, 5, 3, 1] (by simp only [go_sem]; rfl) ?_
      by_cases hB0 : B = []
      · have hst : List.zipWith mmS (l.map fun n => (n, n)) l = stepM B l := by unfold stepM firstB; rw [if_pos hB0]
        have hb0 : B.length = 0 := by rw [hB0]; rfl
        have hbm : B.map spE = [] := by rw [hB0]; rfl
        rw [hb0, hbm]
        refine RunQ.loop (fun k s' => ∃ C : List Box, noLoops C = true ∧ s' = ⟨[(11, ii k), (10, ii i), (9, .ms 2 k), (8, .sl .a (T.map pvL)), (5, .bp 1 0), (3, .bp 0 0), (1, ii limb)], 80, .var [ii s, .sl z (ls.map encLb)] false :: .var [ii p.1, ii p.2] false :: .row (decide (k = 0)) 39 2 (((l.take k).map fun n => (n, n)).map spE) false :: C⟩) ls.length ⟨[.dead], rfl, rfl⟩ ?_
        rintro k _ hk ⟨C, hC, rfl⟩
        by_cases hkl : k < ls.length
        · obtain ⟨t, ht⟩ : ∃ t, l[k]? = some t := ⟨_, List.getElem?_eq_getElem (by omega)⟩
          have ht' : (l.map ii)[k]? = some (ii t) := map_get ht
          have hkl' : (k : Int) < l.length := by omega
          have e5 : IntKind.i64.wrap ((k : Int) + 1) = ((k + 1 : Nat) : Int) := wrap_id (by omega) (by omega)
          have r2 : k + 1 ≤ maxLen := by unfold maxLen; omega
          have r3 : (k + 1) * 16 ≤ 140737488355328 := by omega
          have hd1 : decide (k + 1 = 0) = false := by simp
          have htk3 : ((l.take (k + 1)).map fun n => (n, n)).map spE = ((l.take k).map fun n => (n, n)).map spE ++ [.agg [ii t, ii t]] := by
            rw [List.take_add_one, ht]; simp [spE]
          have hRl : ((l.take k).map fun n => (n, n)).length = k := by simp; omega
          generalize hRR : (l.take k).map (fun n => (n, n)) = R at hRl htk3 ⊢
          have hRg : (R.map spE ++ [PV.agg [ii t, ii t]])[k]? = some (.agg [ii t, ii t]) := by
            rw [List.getElem?_append_right (by simp [hRl])]; simp [hRl]
          have hRs := set_at_self hRg
          have hRn : (R.map spE ++ [PV.agg [ii t, ii t]]).length = k + 1 := by simp [hRl]
          have hmi : min t t = t := by omega
          have hma : max t t = t := by omega
          have hkk : (k : Int) ≤ k := by omega
          have hk1 : k < k + 1 := by omega
          have hk2 : (k : Int) < ((k + 1 : Nat) : Int) := by omega
          have hk0 : (0 : Int) ≤ k := by omega
          generalize hY : R.map spE ++ [PV.agg [ii t, ii t]] = Y at hRg hRs hRn htk3
          repeat (first | (with_reducible (first | refine wA ?_ | refine wB ?_ | refine wC ?_ | refine wD ?_ | refine wE ?_ | refine wF ?_ | refine wG ?_ | refine wH ?_ | refine wI ?_ | refine wJ ?_ | refine wK ?_ | refine wL ?_ | refine wM ?_ | refine wN ?_ | refine wO ?_ | refine wP ?_ | refine wQ rfl ?_ | refine wR ?_ | refine wS ?_ | refine wT ?_ | refine wU ?_)) | ((with_reducible (first | apply wV | apply wW | apply wX | (apply wY [] hTT cfKb_ok noM_ok mixed; (focus kernel_rfl)))); (focus (simp only [Tryz.f38, hx', hlt', hkl', ht', hRl, hY, hRg, hRs, hRn, hmi, hma, hkk, hk1, hk2, hk0, setElem2, e5, r2, r3, mn2, mx2, List.length_map, go_sem]; with_reducible rfl))) | (with_reducible refine wZ hTT cfKb_ok noM_ok ?_) | (with_reducible refine wa ?_; refine And.intro ?_ ?_; (focus kernel_rfl)))
          refine roundQ.b hkl (Back.keep [11, 10, 9, 8, 5, 3, 1] rfl) ⟨C ++ [.dead], noLoops_dead hC, ?_⟩
          rw [htk3, hd1]
          exact St_eq rfl (by simp)
        · have hkl' : ¬ (k : Int) < l.length := by omega
          obtain rfl : k = ls.length := by omega
          have htk3 : l.take ls.length = l := List.take_of_length_le (by omega)
          have hcon : (l.map fun n => (n, n)) = stepM B l := by
            rw [← hst, dup_mm]
          rw [htk3, hn0, hcon]
          repeat (first | (with_reducible (first | refine wA ?_ | refine wB ?_ | refine wC ?_ | refine wD ?_ | refine wE ?_ | refine wF ?_ | refine wG ?_ | refine wH ?_ | refine wI ?_ | refine wJ ?_ | refine wK ?_ | refine wL ?_ | refine wM ?_ | refine wN ?_ | refine wO ?_ | refine wP ?_ | refine wQ rfl ?_ | refine wR ?_ | refine wS ?_ | refine wT ?_ | refine wU ?_)) | ((with_reducible (first | apply wV | apply wW | apply wX | (apply wY [] hTT cfKb_ok noM_ok mixed; (focus kernel_rfl)))); (focus (simp only [Tryz.f38, hkl', hx', hlt', e4, List.length_map, go_sem]; with_reducible rfl))) | (with_reducible refine wZ hTT cfKb_ok noM_ok ?_) | (with_reducible refine wa ?_; refine And.intro ?_ ?_; (focus kernel_rfl)))
          refine roundQ.b hlt (Back.cutP (tm' := [(10, ii ((i + 1 : Nat) : Int)), (9, .ms 2 ls.length), (8, .sl .a (T.map pvL)), (5, .bp 1 0), (3, .bp 0 0), (1, ii limb)]) [10, 9, 8, 5, 3, 1] [.var [ii s, .sl z (ls.map encLb)] false, .var [ii p.1, ii p.2] false, .row false 39 2 ((stepM B l).map spE) false] C rfl (by simp) rfl ?_ ?_ hC) ?_
          · intro q hq
            simp only [List.mem_cons, List.not_mem_nil, or_false] at hq
            rcases hq with rfl | rfl | rfl | rfl | rfl | rfl
            · exact .int
            · exact .ms (show (2 : Nat) < 3 by decide)
            · exact (lt_of_closed (.sl .a (T.map pvL)) (closedL_pv T)).mono (Nat.zero_le _)
            · exact .bp (show (1 : Nat) < 3 by decide)
            · exact .bp (show (0 : Nat) < 3 by decide)
            · exact .int
          · intro x hx
            simp only [List.mem_cons, List.not_mem_nil, or_false] at hx
            rcases hx with rfl | rfl | rfl
            · exact fun c hc => (lt_of_closedL _ (show closedL [ii s, .sl z (ls.map encLb)] = true from by simp [closedL, PV.closed, closedL_lbs]) c hc).mono (Nat.zero_le _)
            · exact fun c hc => (lt_of_closedL _ (show closedL [ii p.1, ii p.2] = true from rfl) c hc).mono (Nat.zero_le _)
            · exact fun c hc => (lt_of_closedL _ (closedL_flat _ (closedL_sp _)) c hc).mono (Nat.zero_le _)
          · rw [htk2, step_len hll hB, hn0] <;> rfl
      · have hB1 : B.length = ls.length := hB.resolve_left hB0
        have hst : List.zipWith mmS B l = stepM B l := by unfold stepM firstB; rw [if_neg hB0]
        rw [hB1, hn0]
        refine RunQ.loop (fun k s' => ∃ C : List Box, noLoops C = true ∧ s' = ⟨[(11, ii k), (10, ii i), (9, .ms 2 ls.length), (8, .sl .a (T.map pvL)), (5, .bp 1 0), (3, .bp 0 0), (1, ii limb)], 80, .var [ii s, .sl z (ls.map encLb)] false :: .var [ii p.1, ii p.2] false :: .row false 39 2 ((mmK k B l).map spE) false :: C⟩) ls.length ⟨[.dead], rfl, by rw [mmK_zero]; rfl⟩ ?_
        rintro k _ hk ⟨C, hC, rfl⟩
        by_cases hkl : k < ls.length
        · obtain ⟨a, ha⟩ : ∃ a, B[k]? = some a := ⟨_, List.getElem?_eq_getElem (by omega)⟩
          obtain ⟨t, ht⟩ : ∃ t, l[k]? = some t := ⟨_, List.getElem?_eq_getElem (by omega)⟩
          have ht' : (l.map ii)[k]? = some (ii t) := map_get ht
          have hkl' : (k : Int) < l.length := by omega
          have hnk : ¬ (ls.length : Int) ≤ k := by omega
          have hkn : (k : Int) < ls.length := by omega
          have e5 : IntKind.i64.wrap ((k : Int) + 1) = ((k + 1 : Nat) : Int) := wrap_id (by omega) (by omega)
          have hlb : l.length = B.length := by omega
          have hRl : (mmK k B l).length = ls.length := by rw [mmK_len hlb (by omega)]; exact hB1
          have hRg : ((mmK k B l).map spE)[k]? = some (.agg [ii a.1, ii a.2]) := map_get (mmK_get hlb ha)
          have hRs : ((mmK k B l).map spE).set k (.agg [ii (min a.1 t), ii (max a.2 t)]) = (mmK (k + 1) B l).map spE := by
            rw [← mmK_set hlb ha ht]; exact map_set_sp _ _ (mmS a t)
          generalize mmK k B l = R at hRl hRg hRs ⊢
          repeat (first | (with_reducible (first | refine wA ?_ | refine wB ?_ | refine wC ?_ | refine wD ?_ | refine wE ?_ | refine wF ?_ | refine wG ?_ | refine wH ?_ | refine wI ?_ | refine wJ ?_ | refine wK ?_ | refine wL ?_ | refine wM ?_ | refine wN ?_ | refine wO ?_ | refine wP ?_ | refine wQ rfl ?_ | refine wR ?_ | refine wS ?_ | refine wT ?_ | refine wU ?_)) | ((with_reducible (first | apply wV | apply wW | apply wX | (apply wY [] hTT cfKb_ok noM_ok mixed; (focus kernel_rfl)))); (focus (simp only [Tryz.f38, hx', hlt', hkl', ht', hnk, hkn, hRl, hRg, hRs, setElem2, e5, mn2, mx2, List.length_map, go_sem]; with_reducible rfl))) | (with_reducible refine wZ hTT cfKb_ok noM_ok ?_) | (with_reducible refine wa ?_; refine And.intro ?_ ?_; (focus kernel_rfl)))
          exact roundQ.b hkl (Back.keep [11, 10, 9, 8, 5, 3, 1] rfl) ⟨C, hC, rfl⟩
        · have hkl' : ¬ (k : Int) < l.length := by omega
          obtain rfl : k = ls.length := by omega
          have hmA : mmK ls.length B l = stepM B l := by
            have hlb : l.length = B.length := by omega
            rw [← hB1, mmK_all hlb]; exact hst
          rw [hmA]
          repeat (first | (with_reducible (first | refine wA ?_ | refine wB ?_ | refine wC ?_ | refine wD ?_ | refine wE ?_ | refine wF ?_ | refine wG ?_ | refine wH ?_ | refine wI ?_ | refine wJ ?_ | refine wK ?_ | refine wL ?_ | refine wM ?_ | refine wN ?_ | refine wO ?_ | refine wP ?_ | refine wQ rfl ?_ | refine wR ?_ | refine wS ?_ | refine wT ?_ | refine wU ?_)) | ((with_reducible (first | apply wV | apply wW | apply wX | (apply wY [] hTT cfKb_ok noM_ok mixed; (focus kernel_rfl)))); (focus (simp only [Tryz.f38, hkl', hx', hlt', e4, List.length_map, go_sem]; with_reducible rfl))) | (with_reducible refine wZ hTT cfKb_ok noM_ok ?_) | (with_reducible refine wa ?_; refine And.intro ?_ ?_; (focus kernel_rfl)))
          refine roundQ.b hlt (Back.cutP (tm' := [(10, ii ((i + 1 : Nat) : Int)), (9, .ms 2 ls.length), (8, .sl .a (T.map pvL)), (5, .bp 1 0), (3, .bp 0 0), (1, ii limb)]) [10, 9, 8, 5, 3, 1] [.var [ii s, .sl z (ls.map encLb)] false, .var [ii p.1, ii p.2] false, .row false 39 2 ((stepM B l).map spE) false] C rfl (by simp) rfl ?_ ?_ hC) ?_
          · intro q hq
            simp only [List.mem_cons, List.not_mem_nil, or_false] at hq
            rcases hq with rfl | rfl | rfl | rfl | rfl | rfl
            · exact .int
            · exact .ms (show (2 : Nat) < 3 by decide)
            · exact (lt_of_closed (.sl .a (T.map pvL)) (closedL_pv T)).mono (Nat.zero_le _)
            · exact .bp (show (1 : Nat) < 3 by decide)
            · exact .bp (show (0 : Nat) < 3 by decide)
            · exact .int
          · intro x hx
            simp only [List.mem_cons, List.not_mem_nil, or_false] at hx
            rcases hx with rfl | rfl | rfl
            · exact fun c hc => (lt_of_closedL _ (show closedL [ii s, .sl z (ls.map encLb)] = true from by simp [closedL, PV.closed, closedL_lbs]) c hc).mono (Nat.zero_le _)
            · exact fun c hc => (lt_of_closedL _ (show closedL [ii p.1, ii p.2] = true from rfl) c hc).mono (Nat.zero_le _)
            · exact fun c hc => (lt_of_closedL _ (closedL_flat _ (closedL_sp _)) c hc).mono (Nat.zero_le _)
          · rw [htk2, step_len hll hB, hn0] <;> rfl
  · have hlt' : ¬ (i : Int) < T.length := by omega
    obtain rfl : i = T.length := by omega
    rw [List.take_length]
    have hB := (bnd_len (T.filter (atG s ls limb p)) fun l h => (pose_at (hPm l (List.mem_filter.1 h).1)).1).2
    cases hM : T.filter (atG s ls limb p) with
    | nil =>
      have hbn : bndG [] = [] := rfl
      rw [hbn]
      repeat (first | (with_reducible (first | refine wA ?_ | refine wB ?_ | refine wC ?_ | refine wD ?_ | refine wE ?_ | refine wF ?_ | refine wG ?_ | refine wH ?_ | refine wI ?_ | refine wJ ?_ | refine wK ?_ | refine wL ?_ | refine wM ?_ | refine wN ?_ | refine wO ?_ | refine wP ?_ | refine wQ rfl ?_ | refine wR ?_ | refine wS ?_ | refine wT ?_ | refine wU ?_)) | ((with_reducible (first | apply wV | apply wW | apply wX | (apply wY [] hTT cfKb_ok noM_ok mixed; (focus kernel_rfl)))); (focus (simp only [Tryz.f38, hlt', List.length_nil, List.map_nil, List.length_map, go_sem]; with_reducible rfl))) | (with_reducible refine wZ hTT cfKb_ok noM_ok ?_) | (with_reducible refine wa ?_; refine And.intro ?_ ?_; (focus kernel_rfl)))
      exact ⟨rfl, rfl, .tuple [.ms 2 0, .bool false], rfl, leave_row2 (z := true) (id := 2) (es := []) rfl rfl rfl rfl⟩
    | cons x M =>
      rw [hM] at hB
      have hB := hB (by simp)
      generalize hBB : bndG (x :: M) = B at hB ⊢
      have hkx : knownX (x :: M) = .tuple [.sl .a (B.map spE), .bool true] := by rw [← hBB]; rfl
      rw [hkx]
      have hn0 : decide (ls.length = 0) = false := by simp [hne]
      have hl0 : (0 : Int) < ls.length := by omega
      rw [hB, hn0]
      repeat (first | (with_reducible (first | refine wA ?_ | refine wB ?_ | refine wC ?_ | refine wD ?_ | refine wE ?_ | refine wF ?_ | refine wG ?_ | refine wH ?_ | refine wI ?_ | refine wJ ?_ | refine wK ?_ | refine wL ?_ | refine wM ?_ | refine wN ?_ | refine wO ?_ | refine wP ?_ | refine wQ rfl ?_ | refine wR ?_ | refine wS ?_ | refine wT ?_ | refine wU ?_)) | ((with_reducible (first | apply wV | apply wW | apply wX | (apply wY [] hTT cfKb_ok noM_ok mixed; (focus kernel_rfl)))); (focus (simp only [Tryz.f38, hlt', hB, hl0, gt_iff_lt, List.length_map, go_sem]; with_reducible rfl))) | (with_reducible refine wZ hTT cfKb_ok noM_ok ?_) | (with_reducible refine wa ?_; refine And.intro ?_ ?_; (focus kernel_rfl)))
      exact ⟨rfl, rfl, .tuple [.ms 2 ls.length, .bool true], rfl, leave_row2 (z := false) (id := 2) (es := B.map spE) rfl (closedL_sp _) (by simp [hB]) rfl⟩
end Go.Pv

/- Contracts: try where what it is given panics; the bounds of turns, or that there are none. -/
namespace Go.Pv
open Go Go.RowKit Go.Proofs
set_option maxRecDepth 10000
set_option maxHeartbeats 4000000

theorem run_of {P : Program} {c : Code} {st s0 : St} {o0 : Out} (h : RunQ P c st (fun o s => o = o0 ∧ s = s0)) : Run P c st o0 s0 := by
  obtain ⟨o, s, hr, rfl, rfl⟩ := h
  exact hr
theorem try_pan {g : FuncId} {fa cap : List PV} {sg sg2 : List Box} {lim : Int} {c : PV} (he : Enters Tryz.prog g) (hc : CallOk Tryz.prog g (fa ++ ([] ++ cap)) (sg ++ [.var [ii 0] false]) (.pan (.iface 192 (.agg [ii lim]))) sg2) (hsl : SameLoops (sg ++ [.var [ii 0] false]) sg2)
    (hb : sg2[sg.length]? = some (.var [c] false)) : CallOk Tryz.prog 93 [.fn (.func g) fa cap] sg (.ret (ii 7)) ((sg2 ++ [Box.var [ii lim] false]).set sg.length (.var [ii 7] false)) := by
  have hsl0 : SameLoops sg sg2 := by
    refine ⟨fun id lr h => hsl.1 id lr (by rw [List.getElem?_append_left (List.getElem?_eq_some_iff.1 h).1]; exact h), fun id lr h => ?_⟩
    obtain ⟨lr', h'⟩ := hsl.2 id lr h
    by_cases hid : id < sg.length
    · rw [List.getElem?_append_left hid] at h'; exact ⟨lr', h'⟩
    · rw [List.getElem?_append_right (by omega)] at h'
      have := (List.getElem?_eq_some_iff.1 h').1
      simp at this
      have e : id - sg.length = 0 := by omega
      rw [e] at h'
      cases h'
  have hlt : sg.length < sg2.length := (List.getElem?_eq_some_iff.1 hb).1
  have hb2 : (sg2 ++ [Box.var [ii lim] false])[sg.length]? = some (.var [c] false) := by rw [List.getElem?_append_left hlt]; exact hb
  have hb3 : ((sg2 ++ [Box.var [ii lim] false]).set sg.length (.var [ii 7] false))[sg.length]? = some (.var [ii 7] false) := List.getElem?_set_self (by simp; omega)
  have hc1 : PRun Tryz.prog (.region 0 #[{ dst := some 2, op := .alloc 31, type := 0, pos := "joint.go:198", after := #[], guard := none }] false) ⟨argT 0 [.fn (.func g) fa cap], 6, sg⟩ .normal ⟨[(2, .bp sg.length 0), (0, .fn (.func g) fa cap)], 6, sg ++ [.var [ii 0] false]⟩ :=
    PRun.regionL hTT (by simp only [plainO, set_last, go_sem])
  refine CallOk.deferring (st1 := ⟨[(2, .bp sg.length 0), (0, .fn (.func g) fa cap)], 6, sg ++ [.var [ii 0] false]⟩) (st2 := ⟨[(4, .fn (.func g) fa cap), (3, .fn (.func 139) [] [.bp sg.length 0]), (2, .bp sg.length 0), (0, .fn (.func g) fa cap)], 6, sg2⟩) (m := .pan (.iface 192 (.agg [ii lim])))
    (st3 := ⟨[(2, .bp sg2.length 0), (10, .agg [ii lim]), (9, .bool true), (8, .tuple [.agg [ii lim], .bool true]), (7, .bool false), (5, .iface 192 (.agg [ii lim])), (0, .bp sg.length 0)], 14, (sg2 ++ [Box.var [ii lim] false]).set sg.length (.var [ii 7] false)⟩) (idv := sg.length) hTT Tryz.func93 rfl Tryz.func139 rfl rfl (by decide) (ent Tryz.func139 rfl) hc1 rfl (of_decide_eq_true rfl) ?_ ?_ ?_ ?_ ?_
  · refine run_of ?_
    repeat (first | (with_reducible (first | refine wA ?_ | refine wB ?_ | refine wC ?_ | refine wD ?_ | refine wE ?_ | refine wF ?_ | refine wG ?_ | refine wH ?_ | refine wI ?_ | refine wJ ?_ | refine wK ?_ | refine wL ?_ | refine wM ?_ | refine wN ?_ | refine wO ?_ | refine wP ?_ | refine wQ rfl ?_ | refine wR ?_ | refine wS ?_ | refine wT ?_ | refine wU ?_)) | ((with_reducible (first | apply wV | apply wW | apply wX | (apply wY [] hTT (cfOne_ok cf0_ok he hc hsl) noM_ok mixed; (focus kernel_rfl)))); (focus (simp only [Tryz.f93, cfOne, go_sem]; with_reducible rfl))) | (with_reducible refine wZ hTT (cfOne_ok cf0_ok he hc hsl) noM_ok ?_) | (with_reducible refine wa ?_; refine And.intro ?_ ?_; (focus kernel_rfl)))
    refine RegQ.stop (v := .iface 192 (.agg [ii lim])) (st1 := ⟨[(4, .fn (.func g) fa cap), (3, .fn (.func 139) [] [.bp sg.length 0]), (2, .bp sg.length 0), (0, .fn (.func g) fa cap)], 6, sg2⟩) (by simp only [cfOne, go_sem]) ?_
    repeat (first | (with_reducible (first | refine wA ?_ | refine wB ?_ | refine wC ?_ | refine wD ?_ | refine wE ?_ | refine wF ?_ | refine wG ?_ | refine wH ?_ | refine wI ?_ | refine wJ ?_ | refine wK ?_ | refine wL ?_ | refine wM ?_ | refine wN ?_ | refine wO ?_ | refine wP ?_ | refine wQ rfl ?_ | refine wR ?_ | refine wS ?_ | refine wT ?_ | refine wU ?_)) | ((with_reducible (first | apply wV | apply wW | apply wX | (apply wY [] hTT cf0_ok noM_ok mixed; (focus kernel_rfl)))); (focus (simp only [Tryz.f93, go_sem]; with_reducible rfl))) | (with_reducible refine wZ hTT cf0_ok noM_ok ?_) | (with_reducible refine wa ?_; refine And.intro ?_ ?_; (focus kernel_rfl)))
    exact ⟨rfl, rfl⟩
  · refine PRun.block (out := .normal) (PRun.seq (st1 := ⟨[(7, .bool false), (5, .iface 192 (.agg [ii lim])), (0, .bp sg.length 0)], 14, sg2⟩) (PRun.regionL hTT rfl) (PRun.cond (b := false) rfl
      (PRun.seq (st1 := ⟨[(10, .agg [ii lim]), (9, .bool true), (8, .tuple [.agg [ii lim], .bool true]), (7, .bool false), (5, .iface 192 (.agg [ii lim])), (0, .bp sg.length 0)], 14, sg2⟩) (PRun.regionL hTT rfl) (PRun.cond (b := true) rfl
        (PRun.seq (st1 := ⟨[(2, .bp sg2.length 0), (10, .agg [ii lim]), (9, .bool true), (8, .tuple [.agg [ii lim], .bool true]), (7, .bool false), (5, .iface 192 (.agg [ii lim])), (0, .bp sg.length 0)], 14, sg2 ++ [.var [ii lim] false]⟩) (PRun.regionL hTT (by simp only [plainO, set_last, get_last, go_sem])) (PRun.regionL hTT (by simp only [plainO, hb2, go_sem])))))))
  · simp only [Tryz.f93, hb3, go_sem]
  · exact hsl0
  · show sg.length < (sg ++ [_]).length
    simp
theorem turns_ret (s : Int) (z : Z) (ls : List Lb) (limb : Int) (p : Pl) (hzo : zOk z (ls.map encLb) = true) (hf : figB s ls = true) (hli : 0 ≤ limb ∧ limb < ls.length) {x : List Int} {M : List (List Int)} (hM : matG s ls limb p = x :: M) :
    CallOk Tryz.prog 95 [.agg [ii s, .sl z (ls.map encLb)], ii limb, .agg [ii p.1, ii p.2]] [] (.ret (.sl .a ((bndG (x :: M)).map spE))) [] := by
  refine CallOk.ofF hTT Tryz.func95 rfl rfl ?_
  have h := turns_run s z ls limb p hzo hf hli _ rfl
  rw [hM] at h
  exact h
theorem turns_pan (s : Int) (z : Z) (ls : List Lb) (limb : Int) (p : Pl) (hzo : zOk z (ls.map encLb) = true) (hf : figB s ls = true) (hli : 0 ≤ limb ∧ limb < ls.length) (hM : matG s ls limb p = []) :
    CallOk Tryz.prog 95 [.agg [ii s, .sl z (ls.map encLb)], ii limb, .agg [ii p.1, ii p.2]] [] (.pan (.iface 192 (.agg [ii limb]))) [] := by
  refine CallOk.ofPan Tryz.func95 rfl rfl ?_ (lt_of_closed (.iface 192 (.agg [ii limb])) rfl)
  have h := turns_run s z ls limb p hzo hf hli _ rfl
  rw [hM] at h
  exact h

/-- What Known returns. -/
def knownV : List (List Int) → PV
  | [] => .tuple [.sl .n [], ii 7]
  | x :: M => .tuple [.sl .a ((bndG (x :: M)).map spE), ii 0]
def knownR (s : Int) (ls : List Lb) (limb : Int) (p : Pl) : PV := if figB s ls = true ∧ limbG ls limb = true then knownV (matG s ls limb p) else .tuple [.sl .n [], ii 2]
def cfKc : CallF := cfAdd (cfAdd cf0 85 c85) 88 c88
theorem cfKc_ok : CallFOk Tryz.prog cfKc := cfAdd_ok (cfAdd_ok cf0_ok c85_ok) c88_ok
theorem Known_37 (s : Int) (z : Z) (ls : List Lb) (limb : Int) (p : Pl) (hzo : zOk z (ls.map encLb) = true) :
    CallOk Tryz.prog 37 [.agg [ii s, .sl z (ls.map encLb)], ii limb, .agg [ii p.1, ii p.2]] [] (.ret (knownR s ls limb p)) [] := by
  refine CallOk.ofF hTT Tryz.func37 rfl rfl ?_
  have hd := decFig_enc s z ls hzo
  unfold knownR
  cases a0 : figB s ls
  · repeat (first | (with_reducible (first | refine wA ?_ | refine wB ?_ | refine wC ?_ | refine wD ?_ | refine wE ?_ | refine wF ?_ | refine wG ?_ | refine wH ?_ | refine wI ?_ | refine wJ ?_ | refine wK ?_ | refine wL ?_ | refine wM ?_ | refine wN ?_ | refine wO ?_ | refine wP ?_ | refine wQ rfl ?_ | refine wR ?_ | refine wS ?_ | refine wT ?_ | refine wU ?_)) | ((with_reducible (first | apply wV | apply wW | apply wX | (apply wY [] hTT cfKc_ok noM_ok mixed; (focus kernel_rfl)))); (focus (simp only [Tryz.f37, cfKc, c85, hd, a0, notYield, go_sem]; with_reducible rfl))) | (with_reducible refine wZ hTT cfKc_ok noM_ok ?_) | (with_reducible refine wa ?_; refine And.intro ?_ ?_; (focus kernel_rfl)))
    exact ⟨rfl, rfl, _, rfl, leave_closed rfl⟩
  have hl := fig_len a0
  have hs : ls.length ≤ maxLen := by unfold maxLen; omega
  cases a1 : limbG ls limb
  · repeat (first | (with_reducible (first | refine wA ?_ | refine wB ?_ | refine wC ?_ | refine wD ?_ | refine wE ?_ | refine wF ?_ | refine wG ?_ | refine wH ?_ | refine wI ?_ | refine wJ ?_ | refine wK ?_ | refine wL ?_ | refine wM ?_ | refine wN ?_ | refine wO ?_ | refine wP ?_ | refine wQ rfl ?_ | refine wR ?_ | refine wS ?_ | refine wT ?_ | refine wU ?_)) | ((with_reducible (first | apply wV | apply wW | apply wX | (apply wY [] hTT cfKc_ok noM_ok mixed; (focus kernel_rfl)))); (focus (simp only [Tryz.f37, cfKc, c85, c88, hd, a0, a1, hs, notYield, go_sem]; with_reducible rfl))) | (with_reducible refine wZ hTT cfKc_ok noM_ok ?_) | (with_reducible refine wa ?_; refine And.intro ?_ ?_; (focus kernel_rfl)))
    exact ⟨rfl, rfl, _, rfl, leave_closed rfl⟩
  have hli : 0 ≤ limb ∧ limb < ls.length := by
    unfold limbG at a1
    simp [inB] at a1; omega
  rw [if_pos ⟨rfl, rfl⟩]
  have hcf : closedL [ii s, .sl z (ls.map encLb)] = true := by simp [closedL, PV.closed, closedL_lbs]
  have hbl : ∀ v : PV, v.closed = true → ∀ b ∈ [Box.var [ii s, .sl z (ls.map encLb)] false, .var [ii limb] false, .var [ii p.1, ii p.2] false, .var [v] false], b.Lt 4 := fun v hv x hx => by
    simp only [List.mem_cons, List.not_mem_nil, or_false] at hx
    rcases hx with rfl | rfl | rfl | rfl
    · exact fun c hc => (lt_of_closedL _ hcf c hc).mono (Nat.zero_le _)
    · exact fun c hc => (lt_of_closedL _ (show closedL [ii limb] = true from rfl) c hc).mono (Nat.zero_le _)
    · exact fun c hc => (lt_of_closedL _ (show closedL [ii p.1, ii p.2] = true from rfl) c hc).mono (Nat.zero_le _)
    · exact fun c hc => by
        simp only [List.mem_cons, List.not_mem_nil, or_false] at hc
        subst hc
        exact (lt_of_closed _ hv).mono (Nat.zero_le _)
  have hla : ∀ x ∈ [PV.agg [ii s, .sl z (ls.map encLb)], ii limb, .agg [ii p.1, ii p.2]], Pv.Lt 0 x := fun x hx => by
    simp only [List.mem_cons, List.not_mem_nil, or_false] at hx
    rcases hx with rfl | rfl | rfl
    · exact lt_of_closed _ (show (PV.agg [ii s, .sl z (ls.map encLb)]).closed = true from hcf)
    · exact lt_of_closed _ rfl
    · exact lt_of_closed _ rfl
  cases hM : matG s ls limb p with
  | nil =>
    have ht := turns_pan s z ls limb p hzo a0 hli hM
    have h94 : CallOk Tryz.prog 94 ([] ++ ([] ++ [.bp 0 0, .bp 1 0, .bp 2 0, .bp 3 0])) ([Box.var [ii s, .sl z (ls.map encLb)] false, .var [ii limb] false, .var [ii p.1, ii p.2] false, .var [.sl .n []] false] ++ [.var [ii 0] false]) (.pan (.iface 192 (.agg [ii limb]))) ([Box.var [ii s, .sl z (ls.map encLb)] false, .var [ii limb] false, .var [ii p.1, ii p.2] false, .var [.sl .n []] false] ++ [.var [ii 0] false]) := by
      have hfr := ht.framePan hla ([Box.var [ii s, .sl z (ls.map encLb)] false, .var [ii limb] false, .var [ii p.1, ii p.2] false, .var [.sl .n []] false] ++ [.var [ii 0] false])
      refine CallOk.ofPanB Tryz.func94 rfl rfl ?_ rfl (fun b hb => ?_) (lt_of_closed (.iface 192 (.agg [ii limb])) rfl |>.mono (Nat.zero_le _))
      · repeat (first | (with_reducible (first | refine wA ?_ | refine wB ?_ | refine wC ?_ | refine wD ?_ | refine wE ?_ | refine wF ?_ | refine wG ?_ | refine wH ?_ | refine wI ?_ | refine wJ ?_ | refine wK ?_ | refine wL ?_ | refine wM ?_ | refine wN ?_ | refine wO ?_ | refine wP ?_ | refine wQ rfl ?_ | refine wR ?_ | refine wS ?_ | refine wT ?_ | refine wU ?_)) | ((with_reducible (first | apply wV | apply wW | apply wX | (apply wY [] hTT (cfOne_ok cf0_ok (ent Tryz.func95 rfl) hfr (SameLoops.refl _)) noM_ok mixed; (focus kernel_rfl)))); (focus (simp only [Tryz.f94, cfOne, go_sem]; with_reducible rfl))) | (with_reducible refine wZ hTT (cfOne_ok cf0_ok (ent Tryz.func95 rfl) hfr (SameLoops.refl _)) noM_ok ?_) | (with_reducible refine wa ?_; refine And.intro ?_ ?_; (focus kernel_rfl)))
        refine RegQ.stop (v := .iface 192 (.agg [ii limb])) (by simp only [cfOne, go_sem]; rfl) ?_
        repeat (first | (with_reducible (first | refine wA ?_ | refine wB ?_ | refine wC ?_ | refine wD ?_ | refine wE ?_ | refine wF ?_ | refine wG ?_ | refine wH ?_ | refine wI ?_ | refine wJ ?_ | refine wK ?_ | refine wL ?_ | refine wM ?_ | refine wN ?_ | refine wO ?_ | refine wP ?_ | refine wQ rfl ?_ | refine wR ?_ | refine wS ?_ | refine wT ?_ | refine wU ?_)) | ((with_reducible (first | apply wV | apply wW | apply wX | (apply wY [] hTT cf0_ok noM_ok mixed; (focus kernel_rfl)))); (focus (simp only [Tryz.f94, go_sem]; with_reducible rfl))) | (with_reducible refine wZ hTT cf0_ok noM_ok ?_) | (with_reducible refine wa ?_; refine And.intro ?_ ?_; (focus kernel_rfl)))
        exact ⟨rfl, SameLoops.refl _, [], by simp⟩
      · rcases List.mem_append.1 hb with hb | hb
        · exact (hbl _ rfl b hb).mono (by simp)
        · simp only [List.mem_cons, List.not_mem_nil, or_false] at hb
          subst hb
          exact fun c hc => (lt_of_closedL _ (show closedL [ii 0] = true from rfl) c hc).mono (Nat.zero_le _)
    have h93 : CallOk Tryz.prog 93 [.fn (.func 94) [] [.bp 0 0, .bp 1 0, .bp 2 0, .bp 3 0]] [Box.var [ii s, .sl z (ls.map encLb)] false, .var [ii limb] false, .var [ii p.1, ii p.2] false, .var [.sl .n []] false] (.ret (ii 7)) [Box.var [ii s, .sl z (ls.map encLb)] false, .var [ii limb] false, .var [ii p.1, ii p.2] false, .var [.sl .n []] false] := (try_pan (ent Tryz.func94 rfl) h94 (SameLoops.refl _) rfl).cut (hbl (.sl .n []) rfl) .int
    unfold knownV
    have b70 : ((7 : Int) != 0) = true := rfl
    repeat (first | (with_reducible (first | refine wA ?_ | refine wB ?_ | refine wC ?_ | refine wD ?_ | refine wE ?_ | refine wF ?_ | refine wG ?_ | refine wH ?_ | refine wI ?_ | refine wJ ?_ | refine wK ?_ | refine wL ?_ | refine wM ?_ | refine wN ?_ | refine wO ?_ | refine wP ?_ | refine wQ rfl ?_ | refine wR ?_ | refine wS ?_ | refine wT ?_ | refine wU ?_)) | ((with_reducible (first | apply wV | apply wW | apply wX | (apply wY [] hTT (cfOne_ok cfKc_ok (ent Tryz.func93 rfl) h93 (SameLoops.refl _)) noM_ok mixed; (focus kernel_rfl)))); (focus (simp only [Tryz.f37, b70, cfOne, cfKc, c85, c88, hd, a0, a1, hs, notYield, go_sem]; with_reducible rfl))) | (with_reducible refine wZ hTT (cfOne_ok cfKc_ok (ent Tryz.func93 rfl) h93 (SameLoops.refl _)) noM_ok ?_) | (with_reducible refine wa ?_; refine And.intro ?_ ?_; (focus kernel_rfl)))
    exact ⟨rfl, rfl, _, rfl, leave_closed rfl⟩
  | cons x M =>
    have ht := turns_ret s z ls limb p hzo a0 hli hM
    generalize hB : (bndG (x :: M)).map spE = B at ht
    have hBc : closedL B = true := by rw [← hB]; exact closedL_sp _
    have hbv : (PV.sl .a B).closed = true := hBc
    have hsl1 : SameLoops ([Box.var [ii s, .sl z (ls.map encLb)] false, .var [ii limb] false, .var [ii p.1, ii p.2] false, .var [.sl .n []] false] ++ [.var [ii 0] false]) ([Box.var [ii s, .sl z (ls.map encLb)] false, .var [ii limb] false, .var [ii p.1, ii p.2] false, .var [.sl .a B] false] ++ [.var [ii 0] false]) := sameLoops_of _ _ rfl
    have h94 : CallOk Tryz.prog 94 ([] ++ ([] ++ [.bp 0 0, .bp 1 0, .bp 2 0, .bp 3 0])) ([Box.var [ii s, .sl z (ls.map encLb)] false, .var [ii limb] false, .var [ii p.1, ii p.2] false, .var [.sl .n []] false] ++ [.var [ii 0] false]) (.ret (.tuple [])) ([Box.var [ii s, .sl z (ls.map encLb)] false, .var [ii limb] false, .var [ii p.1, ii p.2] false, .var [.sl .a B] false] ++ [.var [ii 0] false]) := by
      have hfr := ht.frame hla ([Box.var [ii s, .sl z (ls.map encLb)] false, .var [ii limb] false, .var [ii p.1, ii p.2] false, .var [.sl .n []] false] ++ [.var [ii 0] false])
      refine CallOk.ofB hTT Tryz.func94 rfl rfl ?_ rfl (fun b hb => ?_) (.tuple (fun c hc => by cases hc))
      · repeat (first | (with_reducible (first | refine wA ?_ | refine wB ?_ | refine wC ?_ | refine wD ?_ | refine wE ?_ | refine wF ?_ | refine wG ?_ | refine wH ?_ | refine wI ?_ | refine wJ ?_ | refine wK ?_ | refine wL ?_ | refine wM ?_ | refine wN ?_ | refine wO ?_ | refine wP ?_ | refine wQ rfl ?_ | refine wR ?_ | refine wS ?_ | refine wT ?_ | refine wU ?_)) | ((with_reducible (first | apply wV | apply wW | apply wX | (apply wY [] hTT (cfOne_ok cf0_ok (ent Tryz.func95 rfl) hfr (SameLoops.refl _)) noM_ok mixed; (focus kernel_rfl)))); (focus (simp only [Tryz.f94, cfOne, go_sem]; with_reducible rfl))) | (with_reducible refine wZ hTT (cfOne_ok cf0_ok (ent Tryz.func95 rfl) hfr (SameLoops.refl _)) noM_ok ?_) | (with_reducible refine wa ?_; refine And.intro ?_ ?_; (focus kernel_rfl)))
        exact ⟨rfl, hsl1, rfl, [], by simp⟩
      · rcases List.mem_append.1 hb with hb | hb
        · exact (hbl _ hbv b hb).mono (by simp)
        · simp only [List.mem_cons, List.not_mem_nil, or_false] at hb
          subst hb
          exact fun c hc => (lt_of_closedL _ (show closedL [ii 0] = true from rfl) c hc).mono (Nat.zero_le _)
    have h93 : CallOk Tryz.prog 93 [.fn (.func 94) [] [.bp 0 0, .bp 1 0, .bp 2 0, .bp 3 0]] [Box.var [ii s, .sl z (ls.map encLb)] false, .var [ii limb] false, .var [ii p.1, ii p.2] false, .var [.sl .n []] false] (.ret (ii 0)) [Box.var [ii s, .sl z (ls.map encLb)] false, .var [ii limb] false, .var [ii p.1, ii p.2] false, .var [.sl .a B] false] := (try_core (ent Tryz.func94 rfl) h94 hsl1 rfl).cut (hbl (.sl .a B) hbv) .int
    have hsl2 : SameLoops [Box.var [ii s, .sl z (ls.map encLb)] false, .var [ii limb] false, .var [ii p.1, ii p.2] false, .var [.sl .n []] false] [Box.var [ii s, .sl z (ls.map encLb)] false, .var [ii limb] false, .var [ii p.1, ii p.2] false, .var [.sl .a B] false] := sameLoops_of _ _ rfl
    unfold knownV
    dsimp only
    rw [hB]
    repeat (first | (with_reducible (first | refine wA ?_ | refine wB ?_ | refine wC ?_ | refine wD ?_ | refine wE ?_ | refine wF ?_ | refine wG ?_ | refine wH ?_ | refine wI ?_ | refine wJ ?_ | refine wK ?_ | refine wL ?_ | refine wM ?_ | refine wN ?_ | refine wO ?_ | refine wP ?_ | refine wQ rfl ?_ | refine wR ?_ | refine wS ?_ | refine wT ?_ | refine wU ?_)) | ((with_reducible (first | apply wV | apply wW | apply wX | (apply wY [] hTT (cfOne_ok cfKc_ok (ent Tryz.func93 rfl) h93 hsl2) noM_ok mixed; (focus kernel_rfl)))); (focus (simp only [Tryz.f37, cfOne, cfKc, c85, c88, hd, a0, a1, hs, notYield, go_sem]; with_reducible rfl))) | (with_reducible refine wZ hTT (cfOne_ok cfKc_ok (ent Tryz.func93 rfl) h93 hsl2) noM_ok ?_) | (with_reducible refine wa ?_; refine And.intro ?_ ?_; (focus kernel_rfl)))
    exact ⟨rfl, rfl, _, rfl, leave_closed (show closedL [.sl .a B, ii 0] = true from by simp [closedL, PV.closed, hBc])⟩
def c37 : List PV → List Box → Option (PRes × List Box)
  | [v, .int .i64 n, w], sg => match decFig v, decPl w with
    | some (s, ls), some p => some (.ret (knownR s ls n p), sg)
    | _, _ => none
  | _, _ => none
theorem c37_ok : ConOk Tryz.prog 37 c37 := ConOk.of0 (ent Tryz.func37 rfl) fun args sg r sg' h => by
  unfold c37 at h
  split at h <;> try (cases h; done)
  split at h <;> cases h
  rename_i h1 h2
  obtain ⟨z, rfl, hz⟩ := decFig_inv h1
  obtain rfl := decPl_inv _ _ h2
  exact ⟨_, rfl, rfl, by rw [ltBL_cons, ltB_fig]; rfl, Known_37 _ _ _ _ _ (zOk_n' hz)⟩
end Go.Pv
