/- Contracts: the reference's places in order; where the end of a limb can be. -/
import Derived.Test.YtmnocohggpmjcaaGreatDoorQwOrdered
import Derived.Test.YtmnocohggpmjcaaGreatDoorQwPut
import Derived.Test.YtmnocohggpmjcaaGreatDoorQtB
import Derived.Test.YtmnocohggpmjcaaGreatDoorQuTru
set_option linter.all false
namespace Go.Pv
open Go Go.RowKit Go.Proofs
set_option maxRecDepth 10000
set_option maxHeartbeats 4000000

open Classical in
/-- The table with one call more, at these arguments alone. -/
noncomputable def cfAt (cf : CallF) (g : FuncId) (args : List PV) (v : PV) : CallF := fun g1 a1 s1 => if g1 = g ∧ a1 = args then some (.ret v, s1) else cf g1 a1 s1
theorem cfAt_ok {P : Program} {cf : CallF} (h : CallFOk P cf) {g : FuncId} {args : List PV} {v : PV} (he : Enters P g) (hc : CallOk P g args [] (.ret v) []) (hl : ltBL 0 args = true) : CallFOk P (cfAt cf g args v) := by
  intro f a s r1 s1 e
  unfold cfAt at e
  split at e
  · rename_i hh
    obtain ⟨rfl, rfl⟩ := hh
    cases e
    exact ⟨he, hc.frame (lt_of_ltBL 0 _ hl) _, SameLoops.refl _⟩
  · exact h _ _ _ _ _ e
def c137 : List PV → List Box → Option (PRes × List Box)
  | [.sl z es, w], sg => match decL decPl es, decPl w with
    | some L, some p => if (z = .n → L = []) ∧ (L ≠ [] → z = .a) ∧ L.length ≤ 100000 then some (.ret (.sl .a ((putP L p).map encPl)), sg) else none
    | _, _ => none
  | _, _ => none
theorem c137_ok : ConOk Tryz.prog 137 c137 := ConOk.of0 (ent Tryz.func137 rfl) fun args sg r sg' h => by
  unfold c137 at h
  split at h <;> try (cases h; done)
  split at h <;> try (cases h; done)
  rename_i h1 h2
  split at h <;> cases h
  rename_i hc
  obtain rfl := decL_inv decPl_inv h1
  obtain rfl := decPl_inv _ _ h2
  exact ⟨_, rfl, rfl, by rw [ltBL_cons, ltB_sl, ltB_pls]; rfl, put_137 _ _ _ hc.1 hc.2.1 hc.2.2⟩
def cfO7 : CallF := cfAdd (cfAdd cf0 69 c87) 137 c137
theorem cfO7_ok : CallFOk Tryz.prog cfO7 := cfAdd_ok (cfAdd_ok cf0_ok c69_ok) c137_ok
theorem plsP_closed (U : List Pl) : (plsP U).closed = true := closedL_map (fun _ => rfl) U
theorem rends_91 (s : Int) (z : Z) (ls : List Lb) (limb : Int) (T : List (List Int)) (hzo : zOk z (ls.map encLb) = true) (hf : figB s ls = true) (hli : 0 ≤ limb ∧ limb < ls.length) (hPm : ∀ l ∈ T, poseG ls l = true) (hTl : T.length ≤ 59049) :
    CallOk Tryz.prog 91 [.agg [ii s, .sl z (ls.map encLb)], .sl .a (T.map pvL), ii limb] [] (.ret (plsP (putsP (endL s ls limb T)))) [] := by
  refine CallOk.ofF hTT Tryz.func91 rfl rfl ?_
  have hd := decFig_enc s z ls hzo
  have hl := fig_len hf
  repeat (first | (with_reducible (first | refine wA ?_ | refine wB ?_ | refine wC ?_ | refine wD ?_ | refine wE ?_ | refine wF ?_ | refine wG ?_ | refine wH ?_ | refine wI ?_ | refine wJ ?_ | refine wK ?_ | refine wL ?_ | refine wM ?_ | refine wN ?_ | refine wO ?_ | refine wP ?_ | refine wQ rfl ?_ | refine wR ?_ | refine wS ?_ | refine wT ?_ | refine wU ?_)) | ((with_reducible (first | apply wV | apply wW | apply wX | (apply wY [] hTT cfO7_ok noM_ok mixed; (focus kernel_rfl)))); (focus (simp only [Tryz.f91, go_sem]; with_reducible rfl))) | (with_reducible refine wZ hTT cfO7_ok noM_ok ?_) | (with_reducible refine wa ?_; refine And.intro ?_ ?_; (focus kernel_rfl)))
  refine RunQ.keep [8, 7, 3, 1, 2] (by simp only [go_sem]; rfl) ?_
  refine RunQ.loop (fun i s' => s' = ⟨[(8, ii i), (7, plsP (putsP (endL s ls limb (T.take i)))), (3, .bp 0 0), (1, .sl .a (T.map pvL)), (2, ii limb)], 27, [.var [ii s, .sl z (ls.map encLb)] false]⟩) T.length rfl ?_
  rintro i _ hi rfl
  by_cases hlt : i < T.length
  · obtain ⟨l, hx⟩ : ∃ l, T[i]? = some l := ⟨_, List.getElem?_eq_getElem hlt⟩
    have hpl := hPm l (List.mem_of_getElem? hx)
    have hll := (pose_at hpl).1
    have hlne : l ≠ [] := fun e => by rw [e] at hll; simp at hll; omega
    have hzn : pvL l = .sl .a (l.map ii) := by
      unfold pvL
      cases l with
      | nil => exact absurd rfl hlne
      | cons a r => rfl
    have hx' : (T.map pvL)[i]? = some (.sl .a (l.map ii)) := by rw [← hzn]; exact map_get hx
    have hzk : zOk .a (l.map ii) = true := by cases l <;> rfl
    have hd3 := decIs1_enc hzk
    have hlt' : (i : Int) < T.length := by omega
    have e4 : IntKind.i64.wrap ((i : Int) + 1) = ((i + 1 : Nat) : Int) := wrap_id (by omega) (by omega)
    have g0 := ends_get (s := s) hf hpl hli
    have g0' : ((ends s ls l).map encPl)[limb.toNat]? = some (.agg [ii (endG1 s ls limb l).1, ii (endG1 s ls limb l).2]) := by rw [List.getElem?_map, g0]; rfl
    have hel : (ends s ls l).length = ls.length := ends_ln hf hpl
    have h0l := hli.1
    have h1l := hli.2
    have hdq : decPl (.agg [ii (endG1 s ls limb l).1, ii (endG1 s ls limb l).2]) = some (endG1 s ls limb l) := rfl
    have htk : putsP (endL s ls limb (T.take (i + 1))) = putP (putsP (endL s ls limb (T.take i))) (endG1 s ls limb l) := by
      unfold endL
      rw [List.take_add_one, hx, List.map_append]
      exact puts_snoc _ _
    have hLl : (putsP (endL s ls limb (T.take i))).length ≤ 100000 := by
      have := puts_len (endL s ls limb (T.take i))
      have h2 : (endL s ls limb (T.take i)).length ≤ T.length := by simp [endL]; omega
      omega
    have hex : plsP (putP (putsP (endL s ls limb (T.take i))) (endG1 s ls limb l)) = .sl .a ((putP (putsP (endL s ls limb (T.take i))) (endG1 s ls limb l)).map encPl) := by
      unfold plsP
      rw [if_neg]
      simp [put_ne]
    generalize endG1 s ls limb l = q at g0' hdq htk hex
    generalize putsP (endL s ls limb (T.take i)) = L at htk hLl hex ⊢
    have hz1 : (if decide (L.length = 0) = true then Z.n else Z.a) = .n → L = [] := fun h => by
      by_cases h0 : L.length = 0
      · exact List.length_eq_zero_iff.1 h0
      · simp [h0] at h
    have hz2 : L ≠ [] → (if decide (L.length = 0) = true then Z.n else Z.a) = .a := fun h => by
      have : ¬ L.length = 0 := fun e => h (List.length_eq_zero_iff.1 e)
      simp [this]
    unfold plsP at hex ⊢
    generalize (if decide (L.length = 0) = true then Z.n else Z.a) = zz at hz1 hz2 ⊢
    have hcond : (zz = .n → L = []) ∧ (L ≠ [] → zz = .a) ∧ L.length ≤ 100000 := ⟨hz1, hz2, hLl⟩
    have hdL : decL decPl (L.map encPl) = some L := decL_map (g := encPl) decPl_enc L
    have hLc : closedL (L.map encPl) = true := closedL_map (fun _ => rfl) L
    have hif : ∀ x : Option (PRes × List Box), (if (zz = .n → L = []) ∧ (L ≠ [] → zz = .a) ∧ L.length ≤ 100000 then x else none) = x := fun x => if_pos hcond
    repeat (first | (with_reducible (first | refine wA ?_ | refine wB ?_ | refine wC ?_ | refine wD ?_ | refine wE ?_ | refine wF ?_ | refine wG ?_ | refine wH ?_ | refine wI ?_ | refine wJ ?_ | refine wK ?_ | refine wL ?_ | refine wM ?_ | refine wN ?_ | refine wO ?_ | refine wP ?_ | refine wQ rfl ?_ | refine wR ?_ | refine wS ?_ | refine wT ?_ | refine wU ?_)) | ((with_reducible (first | apply wV | apply wW | apply wX | (apply wY [] hTT cfO7_ok noM_ok mixed; (focus kernel_rfl)))); (focus (simp only [Tryz.f91, cfO7, c87, c137, hd, hd3, hf, hpl, g0', h0l, h1l, hel, hx', hlt', hdq, hdL, hLc, hif, e4, closedL_lbs, closedL_is, List.length_map, go_sem]; with_reducible rfl))) | (with_reducible refine wZ hTT cfO7_ok noM_ok ?_) | (with_reducible refine wa ?_; refine And.intro ?_ ?_; (focus kernel_rfl)))
    refine roundQ.t 1 [8, 7, 3, 1, 2] hlt (by simp only [ltB_is, ltB_lbs, ltB_pls, ltB_pv, go_sem]) (by rw [htk, hex]; simp only [go_sem])
  · have hlt' : ¬ (i : Int) < T.length := by omega
    obtain rfl : i = T.length := by omega
    rw [List.take_length]
    have hcc := plsP_closed (putsP (endL s ls limb T))
    generalize plsP (putsP (endL s ls limb T)) = V at hcc ⊢
    repeat (first | (with_reducible (first | refine wA ?_ | refine wB ?_ | refine wC ?_ | refine wD ?_ | refine wE ?_ | refine wF ?_ | refine wG ?_ | refine wH ?_ | refine wI ?_ | refine wJ ?_ | refine wK ?_ | refine wL ?_ | refine wM ?_ | refine wN ?_ | refine wO ?_ | refine wP ?_ | refine wQ rfl ?_ | refine wR ?_ | refine wS ?_ | refine wT ?_ | refine wU ?_)) | ((with_reducible (first | apply wV | apply wW | apply wX | (apply wY [] hTT cfO7_ok noM_ok mixed; (focus kernel_rfl)))); (focus (simp only [Tryz.f91, hlt', List.length_map, go_sem]; with_reducible rfl))) | (with_reducible refine wZ hTT cfO7_ok noM_ok ?_) | (with_reducible refine wa ?_; refine And.intro ?_ ?_; (focus kernel_rfl)))
    exact ⟨rfl, rfl, _, rfl, leave_closed hcc⟩
end Go.Pv

/- Contracts: where the end of a limb can be: Reach, Spread, the program's and the reference's. -/
namespace Go.Pv
open Go Go.RowKit Go.Proofs
set_option maxRecDepth 10000
set_option maxHeartbeats 4000000

def reachG (s : Int) (ls : List Lb) (limb : Int) : List Pl := putsP (endL s ls limb (posesG ls))
def spreadG (s : Int) (ls : List Lb) (ps : List Int) (limb : Int) : List Pl := putsP (endL s ls limb (truthsG ls ps))
def reachR (s : Int) (ls : List Lb) (limb : Int) : PV := if figB s ls = true ∧ limbG ls limb = true then .tuple [plsP (reachG s ls limb), ii 0] else .tuple [.sl .n [], ii 2]
def spreadR (s : Int) (ls : List Lb) (ps : List Int) (limb : Int) : PV := if figB s ls = true ∧ poseG ls ps = true ∧ limbG ls limb = true then .tuple [plsP (spreadG s ls ps limb), ii 0] else .tuple [.sl .n [], ii 2]
theorem limb_in {ls : List Lb} {n : Int} (h : limbG ls n = true) : 0 ≤ n ∧ n < ls.length := by
  unfold limbG at h
  simp [inB] at h; omega
theorem args_closed (s : Int) (z : Z) (ls : List Lb) (sp : List (Int × Int)) (n : Int) : closedL [.agg [ii s, .sl z (ls.map encLb)], .fn (.func 166) [] [spP .a sp], ii n] = true := by
  have e1 : (PV.agg [ii s, .sl z (ls.map encLb)]).closed = true := by
    show closedL [ii s, .sl z (ls.map encLb)] = true
    simp [closedL, PV.closed, closedL_lbs]
  have e2 : (PV.fn (.func 166) [] [spP .a sp]).closed = true := by
    show (closedL [] && closedL [spP .a sp]) = true
    simp only [closedL, spPc sp]
    rfl
  simp only [closedL, e1, e2]
  rfl
theorem fig_closed (s : Int) (z : Z) (ls : List Lb) : closedL [ii s, .sl z (ls.map encLb)] = true := by simp [closedL, PV.closed, closedL_lbs]
def cfOf : CallF := cfAdd (cfAdd (cfAdd (cfAdd (cfAdd cf0 85 c85) 88 c88) 86 c86) 90 c90) 109 c109
theorem cfOf_ok : CallFOk Tryz.prog cfOf := cfAdd_ok (cfAdd_ok (cfAdd_ok (cfAdd_ok (cfAdd_ok cf0_ok c85_ok) c88_ok) c86_ok) c90_ok) c109_ok
theorem Reach_35 (s : Int) (z : Z) (ls : List Lb) (limb : Int) (hzo : zOk z (ls.map encLb) = true) :
    CallOk Tryz.prog 35 [.agg [ii s, .sl z (ls.map encLb)], ii limb] [] (.ret (reachR s ls limb)) [] := by
  refine CallOk.ofF hTT Tryz.func35 rfl rfl ?_
  have hd := decFig_enc s z ls hzo
  unfold reachR
  cases a0 : figB s ls
  · repeat (first | (with_reducible (first | refine wA ?_ | refine wB ?_ | refine wC ?_ | refine wD ?_ | refine wE ?_ | refine wF ?_ | refine wG ?_ | refine wH ?_ | refine wI ?_ | refine wJ ?_ | refine wK ?_ | refine wL ?_ | refine wM ?_ | refine wN ?_ | refine wO ?_ | refine wP ?_ | refine wQ rfl ?_ | refine wR ?_ | refine wS ?_ | refine wT ?_ | refine wU ?_)) | ((with_reducible (first | apply wV | apply wW | apply wX | (apply wY [] hTT cfOf_ok noM_ok mixed; (focus kernel_rfl)))); (focus (simp only [Tryz.f35, cfOf, c85, hd, a0, notYield, go_sem]; with_reducible rfl))) | (with_reducible refine wZ hTT cfOf_ok noM_ok ?_) | (with_reducible refine wa ?_; refine And.intro ?_ ?_; (focus kernel_rfl)))
    exact ⟨rfl, rfl, _, rfl, leave_closed rfl⟩
  have hl := fig_len a0
  have hs : ls.length ≤ maxLen := by unfold maxLen; omega
  have hs2 : ls.length ≤ 1000 := by omega
  have hne : ls ≠ [] := fun e => by rw [e] at hl; simp at hl
  cases a1 : limbG ls limb
  · repeat (first | (with_reducible (first | refine wA ?_ | refine wB ?_ | refine wC ?_ | refine wD ?_ | refine wE ?_ | refine wF ?_ | refine wG ?_ | refine wH ?_ | refine wI ?_ | refine wJ ?_ | refine wK ?_ | refine wL ?_ | refine wM ?_ | refine wN ?_ | refine wO ?_ | refine wP ?_ | refine wQ rfl ?_ | refine wR ?_ | refine wS ?_ | refine wT ?_ | refine wU ?_)) | ((with_reducible (first | apply wV | apply wW | apply wX | (apply wY [] hTT cfOf_ok noM_ok mixed; (focus kernel_rfl)))); (focus (simp only [Tryz.f35, cfOf, c85, c88, hd, a0, a1, hs, notYield, go_sem]; with_reducible rfl))) | (with_reducible refine wZ hTT cfOf_ok noM_ok ?_) | (with_reducible refine wa ?_; refine And.intro ?_ ?_; (focus kernel_rfl)))
    exact ⟨rfl, rfl, _, rfl, leave_closed rfl⟩
  rw [if_pos ⟨rfl, rfl⟩]
  have h89 := ordered_89 s z ls limb (spansG ls) hzo a0 (limb_in a1) (spans_in a0) (by simp [spansG]; omega) (fun l h => mem_poses.1 h) (poses_len a0)
  have hR : putsP (endL s ls limb (exts (spansG ls) [])) = reachG s ls limb := rfl
  rw [hR] at h89
  have hlt := ltBL_of_closed 0 _ (args_closed s z ls (spansG ls) limb)
  have hc1 := fig_closed s z ls
  have hc2 := spPc (spansG ls)
  have hc3 := plsP_closed (reachG s ls limb)
  generalize plsP (reachG s ls limb) = R at h89 hc3 ⊢
  repeat (first | (with_reducible (first | refine wA ?_ | refine wB ?_ | refine wC ?_ | refine wD ?_ | refine wE ?_ | refine wF ?_ | refine wG ?_ | refine wH ?_ | refine wI ?_ | refine wJ ?_ | refine wK ?_ | refine wL ?_ | refine wM ?_ | refine wN ?_ | refine wO ?_ | refine wP ?_ | refine wQ rfl ?_ | refine wR ?_ | refine wS ?_ | refine wT ?_ | refine wU ?_)) | ((with_reducible (first | apply wV | apply wW | apply wX | (apply wY [] hTT (cfAt_ok cfOf_ok (ent Tryz.func89 rfl) h89 hlt) noM_ok mixed; (focus kernel_rfl)))); (focus (simp only [Tryz.f35, cfAt, cfOf, c85, c88, c90, hd, a0, a1, hs, hs2, hne, closedL_lbs, closedL_sp, notYield, go_sem]; with_reducible rfl))) | (with_reducible refine wZ hTT (cfAt_ok cfOf_ok (ent Tryz.func89 rfl) h89 hlt) noM_ok ?_) | (with_reducible refine wa ?_; refine And.intro ?_ ?_; (focus kernel_rfl)))
  exact ⟨rfl, rfl, _, rfl, leave_closed (show closedL [R, ii 0] = true from by simp only [closedL, hc3]; rfl)⟩
theorem Spread_53 (s : Int) (z zp : Z) (ls : List Lb) (ps : List Int) (limb : Int) (hzo : zOk z (ls.map encLb) = true) (hzp : zOk zp (ps.map ii) = true) :
    CallOk Tryz.prog 53 [.agg [ii s, .sl z (ls.map encLb)], .sl zp (ps.map ii), ii limb] [] (.ret (spreadR s ls ps limb)) [] := by
  refine CallOk.ofF hTT Tryz.func53 rfl rfl ?_
  have hd := decFig_enc s z ls hzo
  have hd3 := decIs1_enc hzp
  unfold spreadR
  cases a0 : figB s ls
  · repeat (first | (with_reducible (first | refine wA ?_ | refine wB ?_ | refine wC ?_ | refine wD ?_ | refine wE ?_ | refine wF ?_ | refine wG ?_ | refine wH ?_ | refine wI ?_ | refine wJ ?_ | refine wK ?_ | refine wL ?_ | refine wM ?_ | refine wN ?_ | refine wO ?_ | refine wP ?_ | refine wQ rfl ?_ | refine wR ?_ | refine wS ?_ | refine wT ?_ | refine wU ?_)) | ((with_reducible (first | apply wV | apply wW | apply wX | (apply wY [] hTT cfOf_ok noM_ok mixed; (focus kernel_rfl)))); (focus (simp only [Tryz.f53, cfOf, c85, hd, a0, notYield, go_sem]; with_reducible rfl))) | (with_reducible refine wZ hTT cfOf_ok noM_ok ?_) | (with_reducible refine wa ?_; refine And.intro ?_ ?_; (focus kernel_rfl)))
    exact ⟨rfl, rfl, _, rfl, leave_closed rfl⟩
  have hl := fig_len a0
  have hs : ls.length ≤ maxLen := by unfold maxLen; omega
  have hs2 : ls.length ≤ 1000 := by omega
  cases a2 : poseG ls ps
  · repeat (first | (with_reducible (first | refine wA ?_ | refine wB ?_ | refine wC ?_ | refine wD ?_ | refine wE ?_ | refine wF ?_ | refine wG ?_ | refine wH ?_ | refine wI ?_ | refine wJ ?_ | refine wK ?_ | refine wL ?_ | refine wM ?_ | refine wN ?_ | refine wO ?_ | refine wP ?_ | refine wQ rfl ?_ | refine wR ?_ | refine wS ?_ | refine wT ?_ | refine wU ?_)) | ((with_reducible (first | apply wV | apply wW | apply wX | (apply wY [] hTT cfOf_ok noM_ok mixed; (focus kernel_rfl)))); (focus (simp only [Tryz.f53, cfOf, c85, c86, hd, hd3, a0, a2, hs2, notYield, go_sem]; with_reducible rfl))) | (with_reducible refine wZ hTT cfOf_ok noM_ok ?_) | (with_reducible refine wa ?_; refine And.intro ?_ ?_; (focus kernel_rfl)))
    exact ⟨rfl, rfl, _, rfl, leave_closed rfl⟩
  cases a1 : limbG ls limb
  · repeat (first | (with_reducible (first | refine wA ?_ | refine wB ?_ | refine wC ?_ | refine wD ?_ | refine wE ?_ | refine wF ?_ | refine wG ?_ | refine wH ?_ | refine wI ?_ | refine wJ ?_ | refine wK ?_ | refine wL ?_ | refine wM ?_ | refine wN ?_ | refine wO ?_ | refine wP ?_ | refine wQ rfl ?_ | refine wR ?_ | refine wS ?_ | refine wT ?_ | refine wU ?_)) | ((with_reducible (first | apply wV | apply wW | apply wX | (apply wY [] hTT cfOf_ok noM_ok mixed; (focus kernel_rfl)))); (focus (simp only [Tryz.f53, cfOf, c85, c86, c88, hd, hd3, a0, a1, a2, hs, hs2, notYield, go_sem]; with_reducible rfl))) | (with_reducible refine wZ hTT cfOf_ok noM_ok ?_) | (with_reducible refine wa ?_; refine And.intro ?_ ?_; (focus kernel_rfl)))
    exact ⟨rfl, rfl, _, rfl, leave_closed rfl⟩
  rw [if_pos ⟨rfl, rfl, rfl⟩]
  have h89 := ordered_89 s z ls limb (truS ls ps) hzo a0 (limb_in a1) (fun x hx => by have := tru_bd a0 a2 x hx; omega) (by rw [tru_len a2]; omega) (fun l h => truth_pose a2 h) (truths_len a0 a2)
  have hR : putsP (endL s ls limb (exts (truS ls ps) [])) = spreadG s ls ps limb := rfl
  rw [hR] at h89
  have hlt := ltBL_of_closed 0 _ (args_closed s z ls (truS ls ps) limb)
  have hc3 := plsP_closed (spreadG s ls ps limb)
  generalize plsP (spreadG s ls ps limb) = R at h89 hc3 ⊢
  repeat (first | (with_reducible (first | refine wA ?_ | refine wB ?_ | refine wC ?_ | refine wD ?_ | refine wE ?_ | refine wF ?_ | refine wG ?_ | refine wH ?_ | refine wI ?_ | refine wJ ?_ | refine wK ?_ | refine wL ?_ | refine wM ?_ | refine wN ?_ | refine wO ?_ | refine wP ?_ | refine wQ rfl ?_ | refine wR ?_ | refine wS ?_ | refine wT ?_ | refine wU ?_)) | ((with_reducible (first | apply wV | apply wW | apply wX | (apply wY [] hTT (cfAt_ok cfOf_ok (ent Tryz.func89 rfl) h89 hlt) noM_ok mixed; (focus kernel_rfl)))); (focus (simp only [Tryz.f53, cfAt, cfOf, c85, c86, c88, c109, hd, hd3, a0, a1, a2, hs, hs2, closedL_lbs, closedL_sp, closedL_is, notYield, go_sem]; with_reducible rfl))) | (with_reducible refine wZ hTT (cfAt_ok cfOf_ok (ent Tryz.func89 rfl) h89 hlt) noM_ok ?_) | (with_reducible refine wa ?_; refine And.intro ?_ ?_; (focus kernel_rfl)))
  exact ⟨rfl, rfl, _, rfl, leave_closed (show closedL [R, ii 0] = true from by simp only [closedL, hc3]; rfl)⟩
theorem ltBL_ends (s : Int) (z : Z) (ls : List Lb) (T : List (List Int)) (n : Int) : ltBL 0 [.agg [ii s, .sl z (ls.map encLb)], .sl .a (T.map pvL), ii n] = true := by
  rw [ltBL_cons, ltB_fig, ltBL_cons, ltB_sl, ltB_pv]; rfl
def cfOg : CallF := cfAdd (cfAdd cf0 92 c92) 110 c110
theorem cfOg_ok : CallFOk Tryz.prog cfOg := cfAdd_ok (cfAdd_ok cf0_ok c92_ok) c110_ok
theorem RReach_36 (s : Int) (z : Z) (ls : List Lb) (limb : Int) (hzo : zOk z (ls.map encLb) = true) (hf : figB s ls = true) (hli : 0 ≤ limb ∧ limb < ls.length) :
    CallOk Tryz.prog 36 [.agg [ii s, .sl z (ls.map encLb)], ii limb] [] (.ret (plsP (reachG s ls limb))) [] := by
  refine CallOk.ofF hTT Tryz.func36 rfl rfl ?_
  have hd := decFig_enc s z ls hzo
  have h91 := rends_91 s z ls limb (posesG ls) hzo hf hli (fun l h => mem_poses.1 h) (poses_len hf)
  have hR : putsP (endL s ls limb (posesG ls)) = reachG s ls limb := rfl
  rw [hR] at h91
  have hlt := ltBL_ends s z ls (posesG ls) limb
  have hc3 := plsP_closed (reachG s ls limb)
  generalize plsP (reachG s ls limb) = R at h91 hc3 ⊢
  repeat (first | (with_reducible (first | refine wA ?_ | refine wB ?_ | refine wC ?_ | refine wD ?_ | refine wE ?_ | refine wF ?_ | refine wG ?_ | refine wH ?_ | refine wI ?_ | refine wJ ?_ | refine wK ?_ | refine wL ?_ | refine wM ?_ | refine wN ?_ | refine wO ?_ | refine wP ?_ | refine wQ rfl ?_ | refine wR ?_ | refine wS ?_ | refine wT ?_ | refine wU ?_)) | ((with_reducible (first | apply wV | apply wW | apply wX | (apply wY [] hTT (cfAt_ok cfOg_ok (ent Tryz.func91 rfl) h91 hlt) noM_ok mixed; (focus kernel_rfl)))); (focus (simp only [Tryz.f36, cfAt, cfOg, c92, hd, hf, closedL_lbs, closedL_pv, go_sem]; with_reducible rfl))) | (with_reducible refine wZ hTT (cfAt_ok cfOg_ok (ent Tryz.func91 rfl) h91 hlt) noM_ok ?_) | (with_reducible refine wa ?_; refine And.intro ?_ ?_; (focus kernel_rfl)))
  exact ⟨rfl, rfl, _, rfl, leave_closed hc3⟩
theorem RSpread_54 (s : Int) (z zp : Z) (ls : List Lb) (ps : List Int) (limb : Int) (hzo : zOk z (ls.map encLb) = true) (hzp : zOk zp (ps.map ii) = true) (hf : figB s ls = true) (hp : poseG ls ps = true) (hli : 0 ≤ limb ∧ limb < ls.length) :
    CallOk Tryz.prog 54 [.agg [ii s, .sl z (ls.map encLb)], .sl zp (ps.map ii), ii limb] [] (.ret (plsP (spreadG s ls ps limb))) [] := by
  refine CallOk.ofF hTT Tryz.func54 rfl rfl ?_
  have hd := decFig_enc s z ls hzo
  have hd3 := decIs1_enc hzp
  have h91 := rends_91 s z ls limb (truthsG ls ps) hzo hf hli (fun l h => truth_pose hp h) (truths_len hf hp)
  have hR : putsP (endL s ls limb (truthsG ls ps)) = spreadG s ls ps limb := rfl
  rw [hR] at h91
  have hlt := ltBL_ends s z ls (truthsG ls ps) limb
  have hc3 := plsP_closed (spreadG s ls ps limb)
  generalize plsP (spreadG s ls ps limb) = R at h91 hc3 ⊢
  repeat (first | (with_reducible (first | refine wA ?_ | refine wB ?_ | refine wC ?_ | refine wD ?_ | refine wE ?_ | refine wF ?_ | refine wG ?_ | refine wH ?_ | refine wI ?_ | refine wJ ?_ | refine wK ?_ | refine wL ?_ | refine wM ?_ | refine wN ?_ | refine wO ?_ | refine wP ?_ | refine wQ rfl ?_ | refine wR ?_ | refine wS ?_ | refine wT ?_ | refine wU ?_)) | ((with_reducible (first | apply wV | apply wW | apply wX | (apply wY [] hTT (cfAt_ok cfOg_ok (ent Tryz.func91 rfl) h91 hlt) noM_ok mixed; (focus kernel_rfl)))); (focus (simp only [Tryz.f54, cfAt, cfOg, c110, hd, hd3, hf, hp, closedL_lbs, closedL_is, closedL_pv, go_sem]; with_reducible rfl))) | (with_reducible refine wZ hTT (cfAt_ok cfOg_ok (ent Tryz.func91 rfl) h91 hlt) noM_ok ?_) | (with_reducible refine wa ?_; refine And.intro ?_ ?_; (focus kernel_rfl)))
  exact ⟨rfl, rfl, _, rfl, leave_closed hc3⟩
def c35 : List PV → List Box → Option (PRes × List Box)
  | [v, .int .i64 n], sg => match decFig v with
    | some (s, ls) => some (.ret (reachR s ls n), sg)
    | none => none
  | _, _ => none
theorem c35_ok : ConOk Tryz.prog 35 c35 := ConOk.of0 (ent Tryz.func35 rfl) fun args sg r sg' h => by
  unfold c35 at h
  split at h <;> try (cases h; done)
  split at h <;> cases h
  rename_i h1
  obtain ⟨z, rfl, hz⟩ := decFig_inv h1
  exact ⟨_, rfl, rfl, by rw [ltBL_cons, ltB_fig]; rfl, Reach_35 _ _ _ _ (zOk_n' hz)⟩
def c36 : List PV → List Box → Option (PRes × List Box)
  | [v, .int .i64 n], sg => match decFig v with
    | some (s, ls) => if figB s ls = true ∧ 0 ≤ n ∧ n < ls.length then some (.ret (plsP (reachG s ls n)), sg) else none
    | none => none
  | _, _ => none
theorem c36_ok : ConOk Tryz.prog 36 c36 := ConOk.of0 (ent Tryz.func36 rfl) fun args sg r sg' h => by
  unfold c36 at h
  split at h <;> try (cases h; done)
  split at h <;> try (cases h; done)
  rename_i h1
  split at h <;> cases h
  rename_i hc
  obtain ⟨z, rfl, hz⟩ := decFig_inv h1
  exact ⟨_, rfl, rfl, by rw [ltBL_cons, ltB_fig]; rfl, RReach_36 _ _ _ _ (zOk_n' hz) hc.1 hc.2⟩
def c53 : List PV → List Box → Option (PRes × List Box)
  | [v, p, .int .i64 n], sg => match decFig v, decIs1 p with
    | some (s, ls), some ps => some (.ret (spreadR s ls ps n), sg)
    | _, _ => none
  | _, _ => none
theorem c53_ok : ConOk Tryz.prog 53 c53 := ConOk.of0 (ent Tryz.func53 rfl) fun args sg r sg' h => by
  unfold c53 at h
  split at h <;> try (cases h; done)
  split at h <;> cases h
  rename_i h1 h3
  obtain ⟨z, rfl, hz⟩ := decFig_inv h1
  obtain ⟨zp, rfl, hp⟩ := decIs1_inv h3
  exact ⟨_, rfl, rfl, by rw [ltBL_cons, ltB_fig, ltBL_cons, ltB_isl]; rfl, Spread_53 _ _ _ _ _ _ (zOk_n' hz) (zOk_n' hp)⟩
def c54 : List PV → List Box → Option (PRes × List Box)
  | [v, p, .int .i64 n], sg => match decFig v, decIs1 p with
    | some (s, ls), some ps => if figB s ls = true ∧ poseG ls ps = true ∧ 0 ≤ n ∧ n < ls.length then some (.ret (plsP (spreadG s ls ps n)), sg) else none
    | _, _ => none
  | _, _ => none
theorem c54_ok : ConOk Tryz.prog 54 c54 := ConOk.of0 (ent Tryz.func54 rfl) fun args sg r sg' h => by
  unfold c54 at h
  split at h <;> try (cases h; done)
  split at h <;> try (cases h; done)
  rename_i h1 h3
  split at h <;> cases h
  rename_i hc
  obtain ⟨z, rfl, hz⟩ := decFig_inv h1
  obtain ⟨zp, rfl, hp⟩ := decIs1_inv h3
  exact ⟨_, rfl, rfl, by rw [ltBL_cons, ltB_fig, ltBL_cons, ltB_isl]; rfl, RSpread_54 _ _ _ _ _ _ (zOk_n' hz) (zOk_n' hp) hc.1 hc.2.1 hc.2.2⟩
end Go.Pv
