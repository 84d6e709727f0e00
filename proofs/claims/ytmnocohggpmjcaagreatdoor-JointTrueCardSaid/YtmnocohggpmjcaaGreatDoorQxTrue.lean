/- The law JointTrue: its function returns true, whatever it is given. -/
import Derived.Test.YtmnocohggpmjcaaGreatDoorQxCard
import Derived.Test.YtmnocohggpmjcaaGreatDoorQxMet
import Derived.Test.YtmnocohggpmjcaaGreatDoorQvKnown
import Derived.Test.YtmnocohggpmjcaaGreatDoorQgEnds
import Derived.Test.YtmnocohggpmjcaaGreatDoorQkSame
set_option linter.all false
namespace Go.Pv
open Go Go.RowKit Go.Proofs
set_option maxRecDepth 10000
set_option maxHeartbeats 4000000
def cfTc : CallF := cfAdd (cfAdd (cfAdd (cfAdd (cfAdd (cfAdd (cfAdd (cfAdd (cfAdd cf0 25 c25) 29 c29) 26 c85) 27 c86) 28 c88) 30 c30) 35 c35) 37 c37) 40 c40
theorem cfTc_ok (hk : ConOk Tryz.prog 29 c29) : CallFOk Tryz.prog cfTc := cfAdd_ok (cfAdd_ok (cfAdd_ok (cfAdd_ok (cfAdd_ok (cfAdd_ok (cfAdd_ok (cfAdd_ok (cfAdd_ok cf0_ok c25_ok) hk) c26_ok) c27_ok) c28_ok) c30_ok) c35_ok) c37_ok) c40_ok
theorem true_6 (hk : ConOk Tryz.prog 29 c29) (s : Int) (z zp : Z) (ls : List Lb) (ps : List Int) (n : Int) (p : Pl) (hzo : zOk z (ls.map encLb) = true) (hp : zOk zp (ps.map ii) = true) :
    CallOk Tryz.prog 6 [.agg [ii s, .sl z (ls.map encLb)], .sl zp (ps.map ii), ii n, .agg [ii p.1, ii p.2]] [] (.ret (.bool true)) [] := by
  refine CallOk.of0 hTT Tryz.func6 rfl rfl ?_
  have hd := decFig_enc s z ls hzo
  have hd3 := decIs1_enc hp
  have hdp : decPl (.agg [ii p.1, ii p.2]) = some p := rfl
  by_cases h0 : ls.length ≤ 7
  case neg =>
    have h0' : decide (ls.length ≤ 7) = false := by simp; omega
    repeat (first | (with_reducible (first | apply wA | apply wB | apply wC | apply wD | apply wE | apply wF | apply wG | apply wH | apply wI | apply wJ | apply wK | apply wL | apply wM | apply wN | apply wO | apply wP | apply wQ rfl | apply wR | apply wS | apply wT | apply wU)) | ((with_reducible (first | apply wV | apply wW | apply wX | (apply wY [] hTT (cfTc_ok hk) noM_ok mixed; (focus kernel_rfl)))); (focus (simp only [Tryz.f6, cfTc, c25, c29, hd, h0', go_sem]; with_reducible rfl))) | (with_reducible refine wZ hTT (cfTc_ok hk) noM_ok ?_) | (with_reducible refine wa ?_; refine And.intro ?_ ?_; (focus kernel_rfl)))
    exact ⟨rfl, rfl, _, rfl, rfl⟩
  have h0' : decide (ls.length ≤ 7) = true := by simp; omega
  have hs : ls.length ≤ maxLen := by unfold maxLen; omega
  have hs2 : ls.length ≤ 1000 := by omega
  by_cases h2 : (8 : Int) < ps.length
  · repeat (first | (with_reducible (first | apply wA | apply wB | apply wC | apply wD | apply wE | apply wF | apply wG | apply wH | apply wI | apply wJ | apply wK | apply wL | apply wM | apply wN | apply wO | apply wP | apply wQ rfl | apply wR | apply wS | apply wT | apply wU)) | ((with_reducible (first | apply wV | apply wW | apply wX | (apply wY [] hTT (cfTc_ok hk) noM_ok mixed; (focus kernel_rfl)))); (focus (simp only [Tryz.f6, cfTc, c25, c29, hd, h0', h2, gt_iff_lt, go_sem]; with_reducible rfl))) | (with_reducible refine wZ hTT (cfTc_ok hk) noM_ok ?_) | (with_reducible refine wa ?_; refine And.intro ?_ ?_; (focus kernel_rfl)))
    exact ⟨rfl, rfl, _, rfl, rfl⟩
  cases a0 : figB s ls
  · repeat (first | (with_reducible (first | apply wA | apply wB | apply wC | apply wD | apply wE | apply wF | apply wG | apply wH | apply wI | apply wJ | apply wK | apply wL | apply wM | apply wN | apply wO | apply wP | apply wQ rfl | apply wR | apply wS | apply wT | apply wU)) | ((with_reducible (first | apply wV | apply wW | apply wX | (apply wY [] hTT (cfTc_ok hk) noM_ok mixed; (focus kernel_rfl)))); (focus (simp only [Tryz.f6, cfTc, c25, c29, c85, hd, hd3, h0', h2, a0, gt_iff_lt, go_sem]; with_reducible rfl))) | (with_reducible refine wZ hTT (cfTc_ok hk) noM_ok ?_) | (with_reducible refine wa ?_; refine And.intro ?_ ?_; (focus kernel_rfl)))
    exact ⟨rfl, rfl, _, rfl, rfl⟩
  cases a2 : poseG ls ps
  · repeat (first | (with_reducible (first | apply wA | apply wB | apply wC | apply wD | apply wE | apply wF | apply wG | apply wH | apply wI | apply wJ | apply wK | apply wL | apply wM | apply wN | apply wO | apply wP | apply wQ rfl | apply wR | apply wS | apply wT | apply wU)) | ((with_reducible (first | apply wV | apply wW | apply wX | (apply wY [] hTT (cfTc_ok hk) noM_ok mixed; (focus kernel_rfl)))); (focus (simp only [Tryz.f6, cfTc, c25, c29, c85, c86, hd, hd3, h0', h2, a0, a2, hs2, gt_iff_lt, go_sem]; with_reducible rfl))) | (with_reducible refine wZ hTT (cfTc_ok hk) noM_ok ?_) | (with_reducible refine wa ?_; refine And.intro ?_ ?_; (focus kernel_rfl)))
    exact ⟨rfl, rfl, _, rfl, rfl⟩
  cases a1 : limbG ls n
  · repeat (first | (with_reducible (first | apply wA | apply wB | apply wC | apply wD | apply wE | apply wF | apply wG | apply wH | apply wI | apply wJ | apply wK | apply wL | apply wM | apply wN | apply wO | apply wP | apply wQ rfl | apply wR | apply wS | apply wT | apply wU)) | ((with_reducible (first | apply wV | apply wW | apply wX | (apply wY [] hTT (cfTc_ok hk) noM_ok mixed; (focus kernel_rfl)))); (focus (simp only [Tryz.f6, cfTc, c25, c29, c85, c86, c88, hd, hd3, h0', h2, a0, a1, a2, hs, hs2, gt_iff_lt, go_sem]; with_reducible rfl))) | (with_reducible refine wZ hTT (cfTc_ok hk) noM_ok ?_) | (with_reducible refine wa ?_; refine And.intro ?_ ?_; (focus kernel_rfl)))
    exact ⟨rfl, rfl, _, rfl, rfl⟩
  have hl := fig_len a0
  have hne : ls ≠ [] := fun e => by rw [e] at hl; simp at hl
  have hz : z ≠ .n := fun e => hne (zOk_map hzo e)
  have hpl := pose_at a2
  have hpne : ps ≠ [] := fun e => by have := hpl.1; rw [e] at this; simp at this; omega
  have hzq : zp ≠ .n := fun e => hpne (zOk_map hp e)
  have hli := limb_in a1
  have hl0 := hli.1
  have hl1 := hli.2
  have hE : endsR s ls ps = .tuple [.sl .a ((ends s ls ps).map encPl), ii 0] := by unfold endsR; rw [a0, a2]; rfl
  have hR : reachR s ls n = .tuple [plsP (reachG s ls n), ii 0] := by unfold reachR; rw [if_pos ⟨a0, a1⟩]
  have hel : (ends s ls ps).length = ls.length := ends_ln a0 a2
  have g0 := ends_get (s := s) a0 a2 hli
  have g0' : ((ends s ls ps).map encPl)[n.toNat]? = some (.agg [ii (endG1 s ls n ps).1, ii (endG1 s ls n ps).2]) := by rw [List.getElem?_map, g0]; rfl
  have hqU : endG1 s ls n ps ∈ reachG s ls n := reach_mem.2 ⟨ps, a2, rfl⟩
  have hpU : p ∈ reachG s ls n ↔ matG s ls n p ≠ [] := by
    rw [reach_mem]
    constructor
    · rintro ⟨l, h1, h3⟩ e
      have : l ∈ matG s ls n p := mat_mem.2 ⟨h1, h3⟩
      rw [e] at this
      cases this
    · intro h
      obtain ⟨l, hl⟩ := List.exists_mem_of_ne_nil _ h
      exact ⟨l, mat_mem.1 hl⟩
  have hUl := reach_2000 a0 n
  have hUne : reachG s ls n ≠ [] := fun e => by rw [e] at hqU; cases hqU
  have hPU : plsP (reachG s ls n) = .sl .a ((reachG s ls n).map encPl) := by
    unfold plsP
    rw [if_neg]
    simp [hUne]
  rw [hPU] at hR
  have hK : knownR s ls n p = knownV (matG s ls n p) := by unfold knownR; rw [if_pos ⟨a0, a1⟩]
  have hdq : decPl (.agg [ii (endG1 s ls n ps).1, ii (endG1 s ls n ps).2]) = some (endG1 s ls n ps) := rfl
  have hMq : endG1 s ls n ps = p → ps ∈ matG s ls n p := fun e => mat_mem.2 ⟨a2, e⟩
  have hMp : ∀ l ∈ matG s ls n p, poseG ls l = true := fun l h => (mat_mem.1 h).1
  generalize endG1 s ls n ps = q at g0' hqU hdq hMq
  generalize reachG s ls n = U at hR hqU hpU hUl hUne
  generalize matG s ls n p = M at hpU hK hMq hMp
  have hqd : decide (q ∈ U) = true := by simpa using hqU
  have hdU : decL decPl (U.map encPl) = some U := decL_map (g := encPl) decPl_enc U
  have hUl2 : U.length ≤ 100000 := by omega
  have hUl3 : ¬ (2000 : Int) < U.length := by omega
  have hcond : (Z.a = Z.n → U = []) ∧ U.length ≤ 100000 := ⟨fun e => (by cases e), hUl2⟩
  have hif : ∀ x : Option (PRes × List Box), (if (Z.a = Z.n → U = []) ∧ U.length ≤ 100000 then x else none) = x := fun x => if_pos hcond
  have b70 : ((7 : Int) != 0) = true := rfl
  have b7 : ((7 : Int) == 0) = false := rfl
  cases M with
  | nil =>
    have hpd : decide (p ∈ U) = false := by
      rw [decide_eq_false_iff_not]
      intro h
      exact hpU.1 h rfl
    have hK : knownR s ls n p = .tuple [.sl .n [], ii 7] := hK
    repeat (first | (with_reducible (first | apply wA | apply wB | apply wC | apply wD | apply wE | apply wF | apply wG | apply wH | apply wI | apply wJ | apply wK | apply wL | apply wM | apply wN | apply wO | apply wP | apply wQ rfl | apply wR | apply wS | apply wT | apply wU)) | ((with_reducible (first | apply wV | apply wW | apply wX | (apply wY [] hTT (cfTc_ok hk) noM_ok mixed; (focus kernel_rfl)))); (focus (simp only [Tryz.f6, cfTc, c25, c29, c30, c35, c37, c40, c85, c86, c88, hd, hd3, hdp, hdq, hdU, hif, false_implies, true_and, and_self, if_true, hUl2, hE, hR, hK, hel, g0', hqd, hpd, hUl3, h0', h2, a0, a1, a2, hs, hs2, hl0, hl1, b70, b7, gt_iff_lt, beq_self_eq_true, List.length_map, go_sem]; with_reducible rfl))) | (with_reducible refine wZ hTT (cfTc_ok hk) noM_ok ?_) | (with_reducible refine wa ?_; refine And.intro ?_ ?_; (focus kernel_rfl)))
    exact ⟨rfl, rfl, _, rfl, rfl⟩
  | cons m M =>
    have hpd : decide (p ∈ U) = true := by simpa using hpU.2 (by simp)
    have hBl := (bnd_len (m :: M) fun l h => (pose_at (hMp l h)).1).2 (by simp)
    have hBk := bnd_ok hne hMp (by simp)
    have hBi : ∀ (i : Nat) (a : Int × Int), (bndG (m :: M))[i]? = some a → q = p → ∀ t, ps[i]? = some t → a.1 ≤ t ∧ t ≤ a.2 := fun i a ha e t ht => (hBk i a ha).all ps (hMq e) t ht
    have hK : knownR s ls n p = .tuple [.sl .a ((bndG (m :: M)).map spE), ii 0] := hK
    generalize bndG (m :: M) = B at hK hBl hBk hBi
    repeat (first | (with_reducible (first | apply wA | apply wB | apply wC | apply wD | apply wE | apply wF | apply wG | apply wH | apply wI | apply wJ | apply wK | apply wL | apply wM | apply wN | apply wO | apply wP | apply wQ rfl | apply wR | apply wS | apply wT | apply wU)) | ((with_reducible (first | apply wV | apply wW | apply wX | (apply wY [] hTT (cfTc_ok hk) noM_ok mixed; (focus kernel_rfl)))); (focus (simp only [Tryz.f6, cfTc, c25, c29, c30, c35, c37, c40, c85, c86, c88, hd, hd3, hdp, hdq, hdU, hif, false_implies, true_and, and_self, if_true, hUl2, hE, hR, hK, hel, hBl, g0', hqd, hpd, hUl3, h0', h2, a0, a1, a2, hs, hs2, hl0, hl1, b70, b7, gt_iff_lt, beq_self_eq_true, List.length_map, go_sem]; with_reducible rfl))) | (with_reducible refine wZ hTT (cfTc_ok hk) noM_ok ?_) | (with_reducible refine wa ?_; refine And.intro ?_ ?_; (focus kernel_rfl)))
    refine RunQ.keep [16, 15, 13, 9, 7, 4, 1, 2] (by simp only [go_sem]; rfl) ?_
    refine RunQ.loop (fun i s' => s' = ⟨[(16, ii i), (15, ii ls.length), (13, .sl .a (B.map spE)), (9, .sl .a ((ends s ls ps).map encPl)), (7, .bp 1 0), (4, .bp 0 0), (1, .sl zp (ps.map ii)), (2, ii n)], 191, [.var [ii s, .sl z (ls.map encLb)] false, .var [ii p.1, ii p.2] false]⟩) ls.length rfl ?_
    rintro i _ hi rfl
    by_cases hlt : i < ls.length
    · obtain ⟨x, hx⟩ : ∃ x, ls[i]? = some x := ⟨_, List.getElem?_eq_getElem hlt⟩
      obtain ⟨t, ht⟩ : ∃ t, ps[i]? = some t := ⟨_, List.getElem?_eq_getElem (by have := hpl.1; omega)⟩
      obtain ⟨a, ha⟩ : ∃ a, B[i]? = some a := ⟨_, List.getElem?_eq_getElem (by omega)⟩
      have hx' : (ls.map encLb)[i]? = some (.agg [ii x.p, ii x.l, ii x.lo, ii x.hi, ii x.w]) := map_get hx
      have ht' : (ps.map ii)[i]? = some (ii t) := map_get ht
      have ha' : (B.map spE)[i]? = some (.agg [ii a.1, ii a.2]) := map_get ha
      have hlt' : (i : Int) < ls.length := by omega
      have e4 : IntKind.i64.wrap ((i : Int) + 1) = ((i + 1 : Nat) : Int) := wrap_id (by omega) (by omega)
      obtain ⟨b1, b2, _⟩ := hBk i a ha
      have b2 := b2 x hx
      have n1 : ¬ a.1 < x.lo := by omega
      have n2 : ¬ x.hi < a.2 := by omega
      have n3 : ¬ a.2 < a.1 := by omega
      by_cases hqp : q = p
      · have h1 : (q.1 == p.1 && q.2 == p.2) = true := by subst hqp; simp
        have b3 := hBi i a ha hqp t ht
        have n4 : ¬ t < a.1 := by omega
        have n5 : ¬ a.2 < t := by omega
        repeat (first | (with_reducible (first | apply wA | ((fail_if_success (refine RunQ.seq (x := .region 16 _ _) ?_)); (apply wB)) | apply wC | apply wD | apply wE | apply wF | apply wG | apply wH | apply wI | apply wJ | apply wK | apply wL | apply wM | apply wN | apply wO | apply wP | apply wQ rfl | apply wR | apply wS | apply wT | apply wU)) | ((with_reducible (first | apply wV | apply wW | apply wX | (apply wY [] hTT (cfTc_ok hk) noM_ok mixed; (focus kernel_rfl)))); (focus (simp only [Tryz.f6, hx', ht', ha', hlt', go_sem]; with_reducible rfl))) | ((fail_if_success (with_reducible show RunQ _ (.region 16 _ _) _ _)); (with_reducible refine wZ hTT (cfTc_ok hk) noM_ok ?_)) | (with_reducible refine wa ?_; refine And.intro ?_ ?_; (focus kernel_rfl)))
        simp only [List.append_eq, List.cons_append, List.nil_append]
        repeat (first | (with_reducible (first | apply wA | apply wB | apply wC | apply wD | apply wE | apply wF | apply wG | apply wH | apply wI | apply wJ | apply wK | apply wL | apply wM | apply wN | apply wO | apply wP | apply wQ rfl | apply wR | apply wS | apply wT | apply wU)) | ((with_reducible (first | apply wV | apply wW | apply wX | (apply wY [] hTT (cfTc_ok hk) noM_ok mixed; (focus kernel_rfl)))); (focus (simp only [Tryz.f6, hx', ht', ha', hlt', hz, hzq, g0', hl0, h1, n1, n2, n3, n4, n5, e4, gt_iff_lt, List.length_map, go_sem]; with_reducible rfl))) | (with_reducible refine wZ hTT (cfTc_ok hk) noM_ok ?_) | (with_reducible refine wa ?_; refine And.intro ?_ ?_; (focus kernel_rfl)))
        refine roundQ.t 2 [16, 15, 13, 9, 7, 4, 1, 2] hlt (by simp only [ltB_is, ltB_lbs, ltBL_sp, ltB_pls, go_sem]) (by simp only [go_sem])
      · have h1 : (q.1 == p.1 && q.2 == p.2) = false := by
          rw [Bool.eq_false_iff]
          intro h
          simp at h
          exact hqp (Prod.ext h.1 h.2)
        repeat (first | (with_reducible (first | apply wA | ((fail_if_success (refine RunQ.seq (x := .region 16 _ _) ?_)); (apply wB)) | apply wC | apply wD | apply wE | apply wF | apply wG | apply wH | apply wI | apply wJ | apply wK | apply wL | apply wM | apply wN | apply wO | apply wP | apply wQ rfl | apply wR | apply wS | apply wT | apply wU)) | ((with_reducible (first | apply wV | apply wW | apply wX | (apply wY [] hTT (cfTc_ok hk) noM_ok mixed; (focus kernel_rfl)))); (focus (simp only [Tryz.f6, hx', ht', ha', hlt', go_sem]; with_reducible rfl))) | ((fail_if_success (with_reducible show RunQ _ (.region 16 _ _) _ _)); (with_reducible refine wZ hTT (cfTc_ok hk) noM_ok ?_)) | (with_reducible refine wa ?_; refine And.intro ?_ ?_; (focus kernel_rfl)))
        simp only [List.append_eq, List.cons_append, List.nil_append]
        repeat (first | (with_reducible (first | apply wA | apply wB | apply wC | apply wD | apply wE | apply wF | apply wG | apply wH | apply wI | apply wJ | apply wK | apply wL | apply wM | apply wN | apply wO | apply wP | apply wQ rfl | apply wR | apply wS | apply wT | apply wU)) | ((with_reducible (first | apply wV | apply wW | apply wX | (apply wY [] hTT (cfTc_ok hk) noM_ok mixed; (focus kernel_rfl)))); (focus (simp only [Tryz.f6, hx', ht', ha', hlt', hz, hzq, g0', hl0, h1, n1, n2, n3, e4, gt_iff_lt, List.length_map, go_sem]; with_reducible rfl))) | (with_reducible refine wZ hTT (cfTc_ok hk) noM_ok ?_) | (with_reducible refine wa ?_; refine And.intro ?_ ?_; (focus kernel_rfl)))
        refine roundQ.t 2 [16, 15, 13, 9, 7, 4, 1, 2] hlt (by simp only [ltB_is, ltB_lbs, ltBL_sp, ltB_pls, go_sem]) (by simp only [go_sem])
    · have hlt' : ¬ (i : Int) < ls.length := by omega
      obtain rfl : i = ls.length := by omega
      repeat (first | (with_reducible (first | apply wA | apply wB | apply wC | apply wD | apply wE | apply wF | apply wG | apply wH | apply wI | apply wJ | apply wK | apply wL | apply wM | apply wN | apply wO | apply wP | apply wQ rfl | apply wR | apply wS | apply wT | apply wU)) | ((with_reducible (first | apply wV | apply wW | apply wX | (apply wY [] hTT (cfTc_ok hk) noM_ok mixed; (focus kernel_rfl)))); (focus (simp only [Tryz.f6, cfTc, c29, hlt', go_sem]; with_reducible rfl))) | (with_reducible refine wZ hTT (cfTc_ok hk) noM_ok ?_) | (with_reducible refine wa ?_; refine And.intro ?_ ?_; (focus kernel_rfl)))
      exact ⟨rfl, rfl, _, rfl, rfl⟩
end Go.Pv
