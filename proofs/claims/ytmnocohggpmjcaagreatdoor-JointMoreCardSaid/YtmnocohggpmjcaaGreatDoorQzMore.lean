/- Ways in plain terms: the way has as many turns as are told; in a wider stage it is no longer; the way back is as long. -/
import Derived.Test.YtmnocohggpmjcaaGreatDoorQyRPath
import Derived.Test.YtmnocohggpmjcaaGreatDoorQpHands
import Derived.Test.YtmnocohggpmjcaaGreatDoorQzMend
import Derived.Test.YtmnocohggpmjcaaGreatDoorQxMet
import Derived.Test.YtmnocohggpmjcaaGreatDoorQuRef
set_option linter.all false
namespace Go.Pv
open Go Go.RowKit Go.Proofs
section
variable {s : Int} {ls : List Lb} {g : Stg} {b : List Int}
theorem away_startQ : ∀ i, (b, 0) ∈ awayQ s ls g b i
  | 0 => List.mem_singleton.2 rfl
  | i + 1 => by
    obtain ⟨r, hr⟩ := bfs_succ (nb := nbG s ls g) (Q0 := [(b, 0)]) i
    have e : awayQ s ls g b (i + 1) = awayQ s ls g b i ++ r := hr
    rw [e]
    exact List.mem_append_left _ (away_startQ i)
theorem away_start : (b, 0) ∈ awayG s ls g b := by unfold awayG; exact away_startQ _
theorem away_zeroQ (i : Nat) {x : List Int × Nat} (hx : x ∈ awayQ s ls g b i) (h : x.2 = 0) : x.1 = b := by
  rcases bfs_pred (nb := nbG s ls g) (f := b) i hx with h1 | ⟨_, _, _, h3⟩
  · rw [h1]
  · omega
theorem away_zero {x : List Int × Nat} (hx : x ∈ awayG s ls g b) (h : x.2 = 0) : x.1 = b := by
  unfold awayG at hx
  exact away_zeroQ _ hx h
end
section
variable {s : Int} {ls : List Lb} {g : Stg} {Q : Dst}
/-- The first turn that leads nearer. -/
theorem first_of (H : Srch s ls g Q) {now : List Int} (hn : hasK Q now = true) (h0 : 0 < dG Q now) :
    ∃ (j : Nat) (t : Int × Int), (candG ls.length)[j]? = some t ∧ firT ls Q now t = true ∧ ∀ (k : Nat) (u : Int × Int), k < j → (candG ls.length)[k]? = some u → firT ls Q now u = false := by
  obtain ⟨t0, h1, h2, h3⟩ := near_of H hn h0
  cases hfd : (candG ls.length).find? (firT ls Q now) with
  | none =>
    rw [List.find?_eq_none] at hfd
    exact absurd (show firT ls Q now t0 = true from by unfold firT; rw [h2, h3]; simp) (hfd t0 h1)
  | some t =>
    obtain ⟨e1, j, l1, e2, e3⟩ := List.find?_eq_some_iff_getElem.1 hfd
    refine ⟨j, t, by rw [List.getElem?_eq_getElem l1, e2], e1, fun k u hku hu => ?_⟩
    obtain ⟨l2, e4⟩ := List.getElem?_eq_some_iff.1 hu
    have := e3 k hku
    rw [e4] at this
    simpa using this
theorem firT_next (H : Srch s ls g Q) {now : List Int} (hn : hasK Q now = true) (h0 : 0 < dG Q now) {t : Int × Int} (ht : firT ls Q now t = true) :
    poseG ls (trnG now t) = true ∧ hasK Q (trnG now t) = true ∧ dG Q (trnG now t) = dG Q now - 1 := by
  unfold firT at ht
  rw [Bool.and_eq_true] at ht
  have h2 : dI Q (trnG now t) = dI Q now - 1 := of_decide_eq_true ht.2
  have h1 := dI_dG hn
  have hk : hasK Q (trnG now t) = true := by
    have := dI_neg (Q := Q) (q := trnG now t)
    rw [h2, decide_eq_false (by omega)] at this
    cases hh : hasK Q (trnG now t) with
    | true => rfl
    | false => rw [hh] at this; cases this
  exact ⟨ht.1, hk, by rw [← dI_dG hk, h2, h1]⟩
/-- The way has as many turns as are told. -/
theorem path_len (H : Srch s ls g Q) : ∀ (n : Nat) (now : List Int), hasK Q now = true → dG Q now = (n : Int) → (pathL s ls g Q n now).length = n
  | 0, _, _, _ => rfl
  | n + 1, now, hn, hd => by
    obtain ⟨j, t, h1, h2, h3⟩ := first_of H hn (by omega)
    rw [path_succ H hn (by omega) h1 h2 h3 n, List.length_cons]
    obtain ⟨_, h4, h5⟩ := firT_next H hn (by omega) h2
    rw [path_len H n _ h4 (by omega)]
/-- What is met in a smaller graph is met in a larger one, no farther. -/
theorem srch_le {g' : Stg} {Q' : Dst} {b : List Int} (H : Srch s ls g Q) (H' : Srch s ls g' Q') (hz : ∀ x ∈ Q, x.2 = 0 → x.1 = b) (hb : (b, 0) ∈ Q') (hg : ∀ l q, q ∈ nbG s ls g l → q ∈ nbG s ls g' l) : ∀ (d : Nat) (l : List Int), (l, d) ∈ Q → ∃ e, (l, e) ∈ Q' ∧ e ≤ d
  | 0, l, h => by
    have := hz _ h rfl
    simp only at this
    subst this
    exact ⟨0, hb, Nat.le_refl _⟩
  | d + 1, l, h => by
    obtain ⟨y, h1, h2⟩ := H.pred _ h (Nat.succ_pos d)
    obtain ⟨e, h3, h4⟩ := srch_le H H' hz hb hg d y h1
    obtain ⟨e', h5, h6⟩ := H'.next _ h3 l (hg y l h2)
    exact ⟨e', h5, by simp only at h6; omega⟩
end
theorem nb_mono {s : Int} {ls : List Lb} {g g' : Stg} (h : ∀ ps, finG s ls g ps = true → finG s ls g' ps = true) (l q : List Int) (hq : q ∈ nbG s ls g l) : q ∈ nbG s ls g' l := by
  obtain ⟨t, h1, h2, h3, h4⟩ := nb_mem.1 hq
  exact nb_mem.2 ⟨t, h1, h2, h3, h q h4⟩
/-- In a wider stage there is a way, too, and no longer one. -/
theorem path_wide {s : Int} {ls : List Lb} {g g' : Stg} {a b : List Int} (hf : figB s ls = true) (hp : poseG ls b = true) (hb : finG s ls g b = true) (h : ∀ ps, finG s ls g ps = true → finG s ls g' ps = true) (hk : hasK (awayG s ls g b) a = true) :
    hasK (awayG s ls g' b) a = true ∧ (pathL s ls g' (awayG s ls g' b) (dG (awayG s ls g' b) a).toNat a).length ≤ (pathL s ls g (awayG s ls g b) (dG (awayG s ls g b) a).toNat a).length := by
  have H := away_srch (g := g) hf hp hb
  have H' := away_srch (g := g') hf hp (h b hb)
  obtain ⟨d, hd⟩ := hasK_iff.1 hk
  obtain ⟨e, h1, h2⟩ := srch_le H H' (fun x hx => away_zero hx) away_start (nb_mono h) d a hd
  have hk' : hasK (awayG s ls g' b) a = true := hasK_iff.2 ⟨e, h1⟩
  have e1 := (dG_mem H hd).1
  have e2 := (dG_mem H' h1).1
  refine ⟨hk', ?_⟩
  rw [path_len H _ a hk (by omega), path_len H' _ a hk' (by omega)]
  omega
end Go.Pv
namespace Go.Pv
open Go Go.RowKit Go.Proofs
set_option maxRecDepth 200000
set_option maxHeartbeats 8000000
def c63 : List PV → List Box → Option (PRes × List Box)
  | [v, p], sg => match decFig v, decIs1 p with
    | some (_, ls), some l => if ls.length ≤ maxLen ∧ l.length ≤ 1000000 then some (.ret (.bool (jntG ls l)), sg) else none
    | _, _ => none
  | _, _ => none
theorem c63_ok : ConOk Tryz.prog 63 c63 := ConOk.of0 (ent Tryz.func63 rfl) fun args sg r sg' h => by
  unfold c63 at h
  split at h <;> try (cases h; done)
  split at h <;> try (cases h; done)
  rename_i h1 h2
  split at h <;> cases h
  rename_i hc
  obtain ⟨z, rfl, hz⟩ := decFig_inv h1
  obtain ⟨zp, rfl, hp⟩ := decIs1_inv h2
  exact ⟨_, rfl, rfl, by rw [ltBL_cons, ltB_fig, ltBL_cons, ltB_isl]; rfl, Joints_63 _ _ _ _ _ (zOk_n' hz) (zOk_n' hp) hc.1 hc.2⟩
def c65 : List PV → List Box → Option (PRes × List Box)
  | [v, p], sg => match decFig v, decIs1 p with
    | some (s, ls), some l => if ls ≠ [] ∧ ls.length ≤ 1000 ∧ l.length ≤ 1000000 ∧ jntG ls l = true then some (.ret (.agg [ii s, .sl .a ((menG ls l).map encLb)]), sg) else none
    | _, _ => none
  | _, _ => none
theorem c65_ok : ConOk Tryz.prog 65 c65 := ConOk.of0 (ent Tryz.func65 rfl) fun args sg r sg' h => by
  unfold c65 at h
  split at h <;> try (cases h; done)
  split at h <;> try (cases h; done)
  rename_i h1 h2
  split at h <;> cases h
  rename_i hc
  obtain ⟨z, rfl, hz⟩ := decFig_inv h1
  obtain ⟨zp, rfl, hp⟩ := decIs1_inv h2
  exact ⟨_, rfl, rfl, by rw [ltBL_cons, ltB_fig, ltBL_cons, ltB_isl]; rfl, Mended_65 _ _ _ _ _ (zOk_n' hz) (zOk_n' hp) hc.1 hc.2.1 hc.2.2.1 (jnt_limb hc.2.2.2)⟩
theorem fineG_zz {s : Int} {ls : List Lb} {ps : List Int} {f f0 f1 : Fld} {p0 p1 : Pl} {w : Int} (hf : fldB f = true) (h0 : fldB f0 = true) (h1 : fldB f1 = true) (hw : 0 ≤ w) (h : fineG s ls ps f f0 f1 p0 p1 = true) : fineG s ls ps (widG f w) (widG f0 w) (widG f1 w) p0 p1 = true := by
  unfold fineG at h ⊢
  simp only [Bool.and_eq_true, Bool.or_eq_true, List.all_eq_true] at h ⊢
  refine ⟨fun p hp => lie_wid hf hw (h.1 p hp), ?_⟩
  rcases h.2 with ⟨a, b⟩ | ⟨a, b⟩
  · exact .inl ⟨lie_wid h0 hw a, lie_wid h1 hw b⟩
  · exact .inr ⟨lie_wid h1 hw a, lie_wid h0 hw b⟩
theorem path_shape (s : Int) (ls : List Lb) (g : Stg) (a b : List Int) : ∃ (z : Z) (l : List (Int × Int)) (k : Int), pathR s ls g a b = .tuple [.sl z (l.map encT), ii k] := by
  unfold pathR
  generalize awayG s ls g b = Q
  split
  · split
    · split
      · generalize pathL s ls g Q (dG Q a).toNat a = l
        obtain ⟨z, hz, _⟩ := trsP_z l
        exact ⟨z, l, 0, by rw [hz]⟩
      · exact ⟨.n, [], _, rfl⟩
    · exact ⟨.n, [], _, rfl⟩
  · exact ⟨.n, [], _, rfl⟩
theorem path_more {s : Int} {ls : List Lb} {g gz : Stg} {a b : List Int} (hf : figB s ls = true) (hg : stgG ls g = true) (hz : stgG ls gz = true) (ha : poseG ls a = true) (hb : poseG ls b = true) (h : ∀ ps, finG s ls g ps = true → finG s ls gz ps = true) :
    ∃ (z1 : Z) (l1 : List (Int × Int)) (k1 : Int) (z2 : Z) (l2 : List (Int × Int)) (k2 : Int), pathR s ls g a b = .tuple [.sl z1 (l1.map encT), ii k1] ∧ pathR s ls gz a b = .tuple [.sl z2 (l2.map encT), ii k2] ∧ (k1 = 0 → k2 = 0 ∧ l2.length ≤ l1.length) := by
  by_cases hfin : finG s ls g a = true ∧ finG s ls g b = true
  · by_cases hk : hasK (awayG s ls g b) a = true
    · obtain ⟨hk', hlen⟩ := path_wide hf hb hfin.2 h hk
      have q1 : pathR s ls g a b = .tuple [trsP (pathL s ls g (awayG s ls g b) (dG (awayG s ls g b) a).toNat a), ii 0] := by
        unfold pathR
        rw [if_pos ⟨hf, hg, ha, hb⟩, if_pos hfin, if_pos hk]
      have q2 : pathR s ls gz a b = .tuple [trsP (pathL s ls gz (awayG s ls gz b) (dG (awayG s ls gz b) a).toNat a), ii 0] := by
        unfold pathR
        rw [if_pos ⟨hf, hz, ha, hb⟩, if_pos ⟨h _ hfin.1, h _ hfin.2⟩, if_pos hk']
      generalize pathL s ls g (awayG s ls g b) (dG (awayG s ls g b) a).toNat a = l1 at q1 hlen
      generalize pathL s ls gz (awayG s ls gz b) (dG (awayG s ls gz b) a).toNat a = l2 at q2 hlen
      obtain ⟨y1, w1, _⟩ := trsP_z l1
      obtain ⟨y2, w2, _⟩ := trsP_z l2
      rw [w1] at q1
      rw [w2] at q2
      exact ⟨y1, l1, 0, y2, l2, 0, q1, q2, fun _ => ⟨rfl, hlen⟩⟩
    · obtain ⟨z2, l2, k2, e2⟩ := path_shape s ls gz a b
      refine ⟨.n, [], 5, z2, l2, k2, ?_, e2, fun e => (by cases e)⟩
      unfold pathR
      rw [if_pos ⟨hf, hg, ha, hb⟩, if_pos hfin, if_neg hk]; rfl
  · obtain ⟨z2, l2, k2, e2⟩ := path_shape s ls gz a b
    refine ⟨.n, [], 7, z2, l2, k2, ?_, e2, fun e => (by cases e)⟩
    unfold pathR
    rw [if_pos ⟨hf, hg, ha, hb⟩, if_neg hfin]; rfl
def cfZe : CallF := cfAdd (cfAdd (cfAdd (cfAdd (cfAdd (cfAdd (cfAdd (cfAdd (cfAdd (cfAdd (cfAdd cf0 43 c43) 27 c86) 63 c63) 28 c88) 29 c29) 65 c65) 55 c55) 53 c53) 40 c40) 67 c67) 42 c42
theorem cfZe_ok (hk : ConOk Tryz.prog 29 c29) : CallFOk Tryz.prog cfZe := cfAdd_ok (cfAdd_ok (cfAdd_ok (cfAdd_ok (cfAdd_ok (cfAdd_ok (cfAdd_ok (cfAdd_ok (cfAdd_ok (cfAdd_ok (cfAdd_ok cf0_ok c43_ok) c27_ok) c63_ok) c28_ok) hk) c65_ok) c55_ok) c53_ok) c40_ok) c67_ok) c42_ok
theorem more_15 (hk : ConOk Tryz.prog 29 c29) (s : Int) (z zh zr zp zq zj : Z) (ls : List Lb) (g : Stg) (ps qs js : List Int) (n w : Int) (hzo : zOk z (ls.map encLb) = true) (hh : zOk zh (g.hs.map encFld) = true) (hr : zOk zr (g.rs.map ii) = true) (hp : zOk zp (ps.map ii) = true) (hq : zOk zq (qs.map ii) = true) (hj : zOk zj (js.map ii) = true) :
    CallOk Tryz.prog 15 [.agg [ii s, .sl z (ls.map encLb)], encStg zh zr g, .sl zp (ps.map ii), .sl zq (qs.map ii), .sl zj (js.map ii), ii n, ii w] [] (.ret (.bool true)) [] := by
  refine CallOk.of0 hTT Tryz.func15 rfl rfl ?_
  have hd := decFig_enc s z ls hzo
  have hd2 := decStg_enc hh hr
  have hd3 := decIs1_enc hp
  have hd4 := decIs1_enc hq
  have hd5 := decIs1_enc hj
  have hd2' := hd2
  unfold encStg at hd2' ⊢
  cases h1 : rightG s ls g
  · repeat (first | (with_reducible (first | apply wA | apply wB | apply wC | apply wD | apply wE | apply wF | apply wG | apply wH | apply wI | apply wJ | apply wK | apply wL | apply wM | apply wN | apply wO | apply wP | apply wQ rfl | apply wR | apply wS | apply wT | apply wU)) | ((with_reducible (first | apply wV | apply wW | apply wX | (apply wY [] hTT (cfZe_ok hk) noM_ok mixed; (focus kernel_rfl)))); (focus (simp only [Tryz.f15, cfZe, c43, c29, hd, hd2', h1, go_sem]; with_reducible rfl))) | (with_reducible refine wZ hTT (cfZe_ok hk) noM_ok ?_) | (with_reducible refine wa ?_; refine And.intro ?_ ?_; (focus kernel_rfl)))
    exact ⟨rfl, rfl, _, rfl, rfl⟩
  by_cases h2 : (8 : Int) < ps.length
  · repeat (first | (with_reducible (first | apply wA | apply wB | apply wC | apply wD | apply wE | apply wF | apply wG | apply wH | apply wI | apply wJ | apply wK | apply wL | apply wM | apply wN | apply wO | apply wP | apply wQ rfl | apply wR | apply wS | apply wT | apply wU)) | ((with_reducible (first | apply wV | apply wW | apply wX | (apply wY [] hTT (cfZe_ok hk) noM_ok mixed; (focus kernel_rfl)))); (focus (simp only [Tryz.f15, cfZe, c43, c29, hd, hd2', h1, h2, gt_iff_lt, go_sem]; with_reducible rfl))) | (with_reducible refine wZ hTT (cfZe_ok hk) noM_ok ?_) | (with_reducible refine wa ?_; refine And.intro ?_ ?_; (focus kernel_rfl)))
    exact ⟨rfl, rfl, _, rfl, rfl⟩
  by_cases h3 : (8 : Int) < qs.length
  · repeat (first | (with_reducible (first | apply wA | apply wB | apply wC | apply wD | apply wE | apply wF | apply wG | apply wH | apply wI | apply wJ | apply wK | apply wL | apply wM | apply wN | apply wO | apply wP | apply wQ rfl | apply wR | apply wS | apply wT | apply wU)) | ((with_reducible (first | apply wV | apply wW | apply wX | (apply wY [] hTT (cfZe_ok hk) noM_ok mixed; (focus kernel_rfl)))); (focus (simp only [Tryz.f15, cfZe, c43, c29, hd, hd2', h1, h2, h3, gt_iff_lt, go_sem]; with_reducible rfl))) | (with_reducible refine wZ hTT (cfZe_ok hk) noM_ok ?_) | (with_reducible refine wa ?_; refine And.intro ?_ ?_; (focus kernel_rfl)))
    exact ⟨rfl, rfl, _, rfl, rfl⟩
  by_cases h4 : (8 : Int) < js.length
  · repeat (first | (with_reducible (first | apply wA | apply wB | apply wC | apply wD | apply wE | apply wF | apply wG | apply wH | apply wI | apply wJ | apply wK | apply wL | apply wM | apply wN | apply wO | apply wP | apply wQ rfl | apply wR | apply wS | apply wT | apply wU)) | ((with_reducible (first | apply wV | apply wW | apply wX | (apply wY [] hTT (cfZe_ok hk) noM_ok mixed; (focus kernel_rfl)))); (focus (simp only [Tryz.f15, cfZe, c43, c29, hd, hd2', h1, h2, h3, h4, gt_iff_lt, go_sem]; with_reducible rfl))) | (with_reducible refine wZ hTT (cfZe_ok hk) noM_ok ?_) | (with_reducible refine wa ?_; refine And.intro ?_ ?_; (focus kernel_rfl)))
    exact ⟨rfl, rfl, _, rfl, rfl⟩
  have hrr : figB s ls = true ∧ stgG ls g = true := by
    unfold rightG at h1
    simp only [Bool.and_eq_true] at h1
    exact ⟨h1.1.2, h1.2⟩
  have hf := hrr.1
  have hg := hrr.2
  have hl := fig_len hf
  have hne : ls ≠ [] := fun e => by rw [e] at hl; simp at hl
  have hs : ls.length ≤ maxLen := by unfold maxLen; omega
  have hs2 : ls.length ≤ 1000 := by omega
  have hj6 : js.length ≤ 1000000 := by omega
  cases h5 : poseG ls ps
  · repeat (first | (with_reducible (first | apply wA | apply wB | apply wC | apply wD | apply wE | apply wF | apply wG | apply wH | apply wI | apply wJ | apply wK | apply wL | apply wM | apply wN | apply wO | apply wP | apply wQ rfl | apply wR | apply wS | apply wT | apply wU)) | ((with_reducible (first | apply wV | apply wW | apply wX | (apply wY [] hTT (cfZe_ok hk) noM_ok mixed; (focus kernel_rfl)))); (focus (simp only [Tryz.f15, cfZe, c43, c29, c86, hd, hd2', hd3, hs2, h1, h2, h3, h4, h5, gt_iff_lt, go_sem]; with_reducible rfl))) | (with_reducible refine wZ hTT (cfZe_ok hk) noM_ok ?_) | (with_reducible refine wa ?_; refine And.intro ?_ ?_; (focus kernel_rfl)))
    exact ⟨rfl, rfl, _, rfl, rfl⟩
  cases h6 : poseG ls qs
  · repeat (first | (with_reducible (first | apply wA | apply wB | apply wC | apply wD | apply wE | apply wF | apply wG | apply wH | apply wI | apply wJ | apply wK | apply wL | apply wM | apply wN | apply wO | apply wP | apply wQ rfl | apply wR | apply wS | apply wT | apply wU)) | ((with_reducible (first | apply wV | apply wW | apply wX | (apply wY [] hTT (cfZe_ok hk) noM_ok mixed; (focus kernel_rfl)))); (focus (simp only [Tryz.f15, cfZe, c43, c29, c86, hd, hd2', hd3, hd4, hs2, h1, h2, h3, h4, h5, h6, gt_iff_lt, go_sem]; with_reducible rfl))) | (with_reducible refine wZ hTT (cfZe_ok hk) noM_ok ?_) | (with_reducible refine wa ?_; refine And.intro ?_ ?_; (focus kernel_rfl)))
    exact ⟨rfl, rfl, _, rfl, rfl⟩
  cases h7 : jntG ls js
  · repeat (first | (with_reducible (first | apply wA | apply wB | apply wC | apply wD | apply wE | apply wF | apply wG | apply wH | apply wI | apply wJ | apply wK | apply wL | apply wM | apply wN | apply wO | apply wP | apply wQ rfl | apply wR | apply wS | apply wT | apply wU)) | ((with_reducible (first | apply wV | apply wW | apply wX | (apply wY [] hTT (cfZe_ok hk) noM_ok mixed; (focus kernel_rfl)))); (focus (simp only [Tryz.f15, cfZe, c43, c29, c86, c63, hd, hd2', hd3, hd4, hd5, hs, hs2, hj6, h1, h2, h3, h4, h5, h6, h7, and_self, if_true, gt_iff_lt, go_sem]; with_reducible rfl))) | (with_reducible refine wZ hTT (cfZe_ok hk) noM_ok ?_) | (with_reducible refine wa ?_; refine And.intro ?_ ?_; (focus kernel_rfl)))
    exact ⟨rfl, rfl, _, rfl, rfl⟩
  cases h8 : limbG ls n
  · repeat (first | (with_reducible (first | apply wA | apply wB | apply wC | apply wD | apply wE | apply wF | apply wG | apply wH | apply wI | apply wJ | apply wK | apply wL | apply wM | apply wN | apply wO | apply wP | apply wQ rfl | apply wR | apply wS | apply wT | apply wU)) | ((with_reducible (first | apply wV | apply wW | apply wX | (apply wY [] hTT (cfZe_ok hk) noM_ok mixed; (focus kernel_rfl)))); (focus (simp only [Tryz.f15, cfZe, c43, c29, c86, c63, c88, hd, hd2', hd3, hd4, hd5, hs, hs2, hj6, h1, h2, h3, h4, h5, h6, h7, h8, and_self, if_true, gt_iff_lt, go_sem]; with_reducible rfl))) | (with_reducible refine wZ hTT (cfZe_ok hk) noM_ok ?_) | (with_reducible refine wa ?_; refine And.intro ?_ ?_; (focus kernel_rfl)))
    exact ⟨rfl, rfl, _, rfl, rfl⟩
  by_cases h9 : w < 0
  · repeat (first | (with_reducible (first | apply wA | apply wB | apply wC | apply wD | apply wE | apply wF | apply wG | apply wH | apply wI | apply wJ | apply wK | apply wL | apply wM | apply wN | apply wO | apply wP | apply wQ rfl | apply wR | apply wS | apply wT | apply wU)) | ((with_reducible (first | apply wV | apply wW | apply wX | (apply wY [] hTT (cfZe_ok hk) noM_ok mixed; (focus kernel_rfl)))); (focus (simp only [Tryz.f15, cfZe, c43, c29, c86, c63, c88, hd, hd2', hd3, hd4, hd5, hs, hs2, hj6, h1, h2, h3, h4, h5, h6, h7, h8, h9, and_self, if_true, gt_iff_lt, go_sem]; with_reducible rfl))) | (with_reducible refine wZ hTT (cfZe_ok hk) noM_ok ?_) | (with_reducible refine wa ?_; refine And.intro ?_ ?_; (focus kernel_rfl)))
    exact ⟨rfl, rfl, _, rfl, rfl⟩
  by_cases h10 : 1000 < w
  · repeat (first | (with_reducible (first | apply wA | apply wB | apply wC | apply wD | apply wE | apply wF | apply wG | apply wH | apply wI | apply wJ | apply wK | apply wL | apply wM | apply wN | apply wO | apply wP | apply wQ rfl | apply wR | apply wS | apply wT | apply wU)) | ((with_reducible (first | apply wV | apply wW | apply wX | (apply wY [] hTT (cfZe_ok hk) noM_ok mixed; (focus kernel_rfl)))); (focus (simp only [Tryz.f15, cfZe, c43, c29, c86, c63, c88, hd, hd2', hd3, hd4, hd5, hs, hs2, hj6, h1, h2, h3, h4, h5, h6, h7, h8, h9, h10, and_self, if_true, gt_iff_lt, go_sem]; with_reducible rfl))) | (with_reducible refine wZ hTT (cfZe_ok hk) noM_ok ?_) | (with_reducible refine wa ?_; refine And.intro ?_ ?_; (focus kernel_rfl)))
    exact ⟨rfl, rfl, _, rfl, rfl⟩
  repeat (first | (with_reducible (first | apply wA | ((fail_if_success (refine RunQ.seq (x := .region 3 _ _) ?_)); (apply wB)) | apply wC | apply wD | apply wE | apply wF | apply wG | apply wH | apply wI | apply wJ | apply wK | apply wL | apply wM | apply wN | apply wO | apply wP | apply wQ rfl | apply wR | apply wS | apply wT | apply wU)) | ((with_reducible (first | apply wV | apply wW | apply wX | (apply wY [] hTT (cfZe_ok hk) noM_ok mixed; (focus kernel_rfl)))); (focus (simp only [Tryz.f15, cfZe, c43, c29, c86, c63, c88, hd, hd2', hd3, hd4, hd5, hs, hs2, hj6, h1, h2, h3, h4, h5, h6, h7, h8, h9, h10, and_self, if_true, gt_iff_lt, go_sem]; with_reducible rfl))) | ((fail_if_success (with_reducible show RunQ _ (.region 3 _ _) _ _)); (with_reducible refine wZ hTT (cfZe_ok hk) noM_ok ?_)) | (with_reducible refine wa ?_; refine And.intro ?_ ?_; (focus kernel_rfl)))
  refine RunQ.keep [8, 7, 2, 3, 4, 5, 6] (by simp only [go_sem]; rfl) ?_
  have hM := mdd_menG js (mdd_refl ls)
  have hMl := mdd_len hM
  have hMf := mdd_fig hM hf
  have hMp : poseG (menG ls js) ps = true := by rw [mdd_pose hM]; exact h5
  have hMg : stgG (menG ls js) g = true := by rw [mdd_stg hM]; exact hg
  have hMn : limbG (menG ls js) n = true := by rw [mdd_limb hM]; exact h8
  have hMfin : finG s (menG ls js) g = finG s ls g := funext fun l => mdd_fin hM g l
  have hMT : ∀ l ∈ truthsG (menG ls js) ps, l ∈ truthsG ls ps := fun l h => mdd_truths hM hf h5 h
  have hself := mdd_self hMf hMp
  have hdM : decFig (.agg [ii s, .sl .a ((menG ls js).map encLb)]) = some (s, menG ls js) := decFig_enc s .a _ (by cases menG ls js <;> rfl)
  have hW : sureR s ls g ps = .tuple [ii (sureI (truthsG ls ps) (finG s ls g)), ii 0] := by unfold sureR; rw [if_pos ⟨hf, hg, h5⟩]
  have hW2 : sureR s (menG ls js) g ps = .tuple [ii (sureI (truthsG (menG ls js) ps) (finG s ls g)), ii 0] := by unfold sureR; rw [if_pos ⟨hMf, hMg, hMp⟩, hMfin]
  have hAB : sureI (truthsG ls ps) (finG s ls g) ≠ 2 → sureI (truthsG (menG ls js) ps) (finG s ls g) = sureI (truthsG ls ps) (finG s ls g) := fun h => sure_sub hMT hself h
  have hVU : ∀ p ∈ spreadG s (menG ls js) ps n, p ∈ spreadG s ls ps n := fun p h => by
    unfold spreadG endL at h ⊢
    rw [puts_mem] at h ⊢
    obtain ⟨l, h1, rfl⟩ := List.mem_map.1 h
    refine List.mem_map.2 ⟨l, hMT l h1, ?_⟩
    unfold endG1
    rw [mdd_ends hM]
  have hVne : spreadG s (menG ls js) ps n ≠ [] := fun e => by
    have := spread_mem (s := s) (n := n) hself
    rw [e] at this
    cases this
  have hUl := spread_2000 hf h5 n
  have hVl : (spreadG s (menG ls js) ps n).length ≤ (spreadG s ls ps n).length := by
    refine nodup_len ?_ hVU
    refine List.Pairwise.imp ?_ (puts_srt (endL s (menG ls js) n (truthsG (menG ls js) ps)))
    intro a b h e
    subst e
    exact absurd h ltP_irr
  have hUne : spreadG s ls ps n ≠ [] := fun e => by
    obtain ⟨p, hp⟩ := List.exists_mem_of_ne_nil _ hVne
    have := hVU p hp
    rw [e] at this
    cases this
  have hPP : ∀ U : List Pl, U ≠ [] → plsP U = .sl .a (U.map encPl) := fun U h => by unfold plsP; rw [if_neg]; simp [h]
  have hS : spreadR s ls ps n = .tuple [plsP (spreadG s ls ps n), ii 0] := by unfold spreadR; rw [if_pos ⟨hf, h5, h8⟩]
  have hS2 : spreadR s (menG ls js) ps n = .tuple [plsP (spreadG s (menG ls js) ps n), ii 0] := by unfold spreadR; rw [if_pos ⟨hMf, hMp, hMn⟩]
  rw [hPP _ hUne] at hS
  rw [hPP _ hVne] at hS2
  generalize sureI (truthsG (menG ls js) ps) (finG s ls g) = B at hW2 hAB
  generalize sureI (truthsG ls ps) (finG s ls g) = A at hW hAB
  generalize spreadG s (menG ls js) ps n = V at hS2 hVU hVne hVl
  generalize spreadG s ls ps n = U at hS hVU hUne hVl hUl
  generalize hMm : menG ls js = M at hdM hW2 hS2
  have hdU : decL decPl (U.map encPl) = some U := decL_map (g := encPl) decPl_enc U
  have hU1 : ¬ (U.length : Int) < V.length := by omega
  have hU2 : ¬ (2000 : Int) < U.length := by omega
  have hU3 : U.length ≤ 100000 := by omega
  have hcond : (Z.a = Z.n → U = []) ∧ U.length ≤ 100000 := ⟨fun e => (by cases e), by omega⟩
  have hif : ∀ x : Option (PRes × List Box), (if (Z.a = Z.n → U = []) ∧ U.length ≤ 100000 then x else none) = x := fun x => if_pos hcond
  have hcM : closedL (M.map encLb) = true := closedL_lbs M
  repeat (first | (with_reducible (first | apply wA | ((fail_if_success (refine RunQ.seq (x := .region 4 _ _) ?_)); (apply wB)) | apply wC | apply wD | apply wE | apply wF | apply wG | apply wH | apply wI | apply wJ | apply wK | apply wL | apply wM | apply wN | apply wO | apply wP | apply wQ rfl | apply wR | apply wS | apply wT | apply wU)) | ((with_reducible (first | apply wV | apply wW | apply wX | (apply wY [] hTT (cfZe_ok hk) noM_ok mixed; (focus kernel_rfl)))); (focus (simp only [Tryz.f15, cfZe, c65, hd, hd5, hne, hs2, hj6, h7, hMm, ne_eq, not_false_eq_true, and_self, if_true, go_sem]; with_reducible rfl))) | ((fail_if_success (with_reducible show RunQ _ (.region 4 _ _) _ _)); (with_reducible refine wZ hTT (cfZe_ok hk) noM_ok ?_)) | (with_reducible refine wa ?_; refine And.intro ?_ ?_; (focus kernel_rfl)))
  refine RunQ.keep [15, 8, 7, 2, 3, 5, 6] (by simp only [go_sem]; rfl) ?_
  repeat (first | (with_reducible (first | apply wA | ((fail_if_success (refine RunQ.seq (x := .region 6 _ _) ?_)); (apply wB)) | apply wC | apply wD | apply wE | apply wF | apply wG | apply wH | apply wI | apply wJ | apply wK | apply wL | apply wM | apply wN | apply wO | apply wP | apply wQ rfl | apply wR | apply wS | apply wT | apply wU)) | ((with_reducible (first | apply wV | apply wW | apply wX | (apply wY [] hTT (cfZe_ok hk) noM_ok mixed; (focus kernel_rfl)))); (focus (simp only [Tryz.f15, cfZe, c55, hd, hd2', hd3, hdM, hs2, hW, hW2, go_sem]; with_reducible rfl))) | ((fail_if_success (with_reducible show RunQ _ (.region 6 _ _) _ _)); (with_reducible refine wZ hTT (cfZe_ok hk) noM_ok ?_)) | (with_reducible refine wa ?_; refine And.intro ?_ ?_; (focus kernel_rfl)))
  refine RunQ.keep [19, 18, 17, 16, 15, 8, 7, 2, 3, 5, 6] (by simp only [go_sem]; rfl) ?_
  repeat (first | (with_reducible (first | apply wA | ((fail_if_success (refine RunQ.seq (x := .region 8 _ _) ?_)); (apply wB)) | apply wC | apply wD | apply wE | apply wF | apply wG | apply wH | apply wI | apply wJ | apply wK | apply wL | apply wM | apply wN | apply wO | apply wP | apply wQ rfl | apply wR | apply wS | apply wT | apply wU)) | ((with_reducible (first | apply wV | apply wW | apply wX | (apply wY [] hTT (cfZe_ok hk) noM_ok mixed; (focus kernel_rfl)))); (focus (simp only [Tryz.f15, cfZe, c53, hd, hd3, hdM, hs2, hS, hS2, go_sem]; with_reducible rfl))) | ((fail_if_success (with_reducible show RunQ _ (.region 8 _ _) _ _)); (with_reducible refine wZ hTT (cfZe_ok hk) noM_ok ?_)) | (with_reducible refine wa ?_; refine And.intro ?_ ?_; (focus kernel_rfl)))
  refine RunQ.keep [23, 22, 21, 20, 19, 18, 17, 16, 8, 7, 2, 3, 6] (by simp only [go_sem]; rfl) ?_
  have b00 : ((0 : Int) != 0) = false := rfl
  refine RunQ.join (k0 := 3) ⟨[(147, .bool false), (22, .sl .a (V.map encPl)), (20, .sl .a (U.map encPl)), (8, .bp 1 0), (7, .bp 0 0), (2, .sl zp (ps.map ii)), (3, .sl zq (qs.map ii)), (6, ii w)], 213, [.var [ii s, .sl z (ls.map encLb)] false, .var [ii g.e.a, ii g.e.b, ii g.e.c, ii g.e.d, .sl zh (g.hs.map encFld), .sl zr (g.rs.map ii)] false, .var [ii s, .sl .a (M.map encLb)] false]⟩ rfl ?_ ?_
  · by_cases hA : A = 2
    · have a2 : (A != 2) = false := by rw [hA]; rfl
      repeat (first | (with_reducible (first | apply wA | apply wB | apply wC | apply wD | apply wE | apply wF | apply wG | apply wH | apply wI | apply wJ | apply wK | apply wL | apply wM | apply wN | apply wO | apply wP | apply wQ rfl | apply wR | apply wS | apply wT | apply wU)) | ((with_reducible (first | apply wV | apply wW | apply wX | (apply wY [] hTT (cfZe_ok hk) noM_ok mixed; (focus kernel_rfl)))); (focus (simp only [Tryz.f15, a2, hU1, hU2, b00, gt_iff_lt, List.length_map, go_sem]; with_reducible rfl))) | (with_reducible refine wZ hTT (cfZe_ok hk) noM_ok ?_) | (with_reducible refine wa ?_; refine And.intro ?_ ?_; (focus kernel_rfl)))
      exact ⟨rfl, Back.keep [147, 22, 20, 8, 7, 2, 3, 6] (by simp only [go_sem])⟩
    · have a2 : (A != 2) = true := by simpa using hA
      have ab : (A != B) = false := by rw [hAB hA]; exact bne_self_eq_false A
      repeat (first | (with_reducible (first | apply wA | apply wB | apply wC | apply wD | apply wE | apply wF | apply wG | apply wH | apply wI | apply wJ | apply wK | apply wL | apply wM | apply wN | apply wO | apply wP | apply wQ rfl | apply wR | apply wS | apply wT | apply wU)) | ((with_reducible (first | apply wV | apply wW | apply wX | (apply wY [] hTT (cfZe_ok hk) noM_ok mixed; (focus kernel_rfl)))); (focus (simp only [Tryz.f15, a2, ab, hU1, hU2, b00, gt_iff_lt, List.length_map, go_sem]; with_reducible rfl))) | (with_reducible refine wZ hTT (cfZe_ok hk) noM_ok ?_) | (with_reducible refine wa ?_; refine And.intro ?_ ?_; (focus kernel_rfl)))
      exact ⟨rfl, Back.keep [147, 22, 20, 8, 7, 2, 3, 6] (by simp only [go_sem])⟩
  repeat (first | (with_reducible (first | apply wA | apply wB | apply wC | apply wD | apply wE | apply wF | apply wG | apply wH | apply wI | apply wJ | apply wK | apply wL | apply wM | apply wN | apply wO | apply wP | apply wQ rfl | apply wR | apply wS | apply wT | apply wU)) | ((with_reducible (first | apply wV | apply wW | apply wX | (apply wY [] hTT (cfZe_ok hk) noM_ok mixed; (focus kernel_rfl)))); (focus (simp only [Tryz.f15, go_sem]; with_reducible rfl))) | (with_reducible refine wZ hTT (cfZe_ok hk) noM_ok ?_) | (with_reducible refine wa ?_; refine And.intro ?_ ?_; (focus kernel_rfl)))
  refine RunQ.keep [24, 22, 20, 8, 7, 2, 3, 6] (by simp only [go_sem]; rfl) ?_
  have lP : ∀ m (l : List Pl), ltBL m (l.map encPl) = true := fun m l => ltBL_of_closed m _ (closedL_map (fun _ => rfl) l)
  have lB : ∀ m (l : List Lb), ltBL m (l.map encLb) = true := fun m l => ltBL_of_closed m _ (closedL_lbs l)
  refine RunQ.loop (fun i s' => s' = ⟨[(24, ii i), (22, .sl .a (V.map encPl)), (20, .sl .a (U.map encPl)), (8, .bp 1 0), (7, .bp 0 0), (2, .sl zp (ps.map ii)), (3, .sl zq (qs.map ii)), (6, ii w)], 213, [.var [ii s, .sl z (ls.map encLb)] false, .var [ii g.e.a, ii g.e.b, ii g.e.c, ii g.e.d, .sl zh (g.hs.map encFld), .sl zr (g.rs.map ii)] false, .var [ii s, .sl .a (M.map encLb)] false]⟩) V.length rfl ?_
  rintro i _ hi rfl
  by_cases hlt : i < V.length
  · obtain ⟨p, hp⟩ : ∃ p, V[i]? = some p := ⟨_, List.getElem?_eq_getElem hlt⟩
    have hp' : (V.map encPl)[i]? = some (.agg [ii p.1, ii p.2]) := by rw [List.getElem?_map, hp]; rfl
    have hdp : decPl (.agg [ii p.1, ii p.2]) = some p := rfl
    have hpU : decide (p ∈ U) = true := by simpa using hVU p (List.mem_of_getElem? hp)
    have hlt' : (i : Int) < V.length := by omega
    have e4 : IntKind.i64.wrap ((i : Int) + 1) = ((i + 1 : Nat) : Int) := wrap_id (by omega) (by omega)
    repeat (first | (with_reducible (first | apply wA | apply wB | apply wC | apply wD | apply wE | apply wF | apply wG | apply wH | apply wI | apply wJ | apply wK | apply wL | apply wM | apply wN | apply wO | apply wP | apply wQ rfl | apply wR | apply wS | apply wT | apply wU)) | ((with_reducible (first | apply wV | apply wW | apply wX | (apply wY [] hTT (cfZe_ok hk) noM_ok mixed; (focus kernel_rfl)))); (focus (simp only [Tryz.f15, cfZe, c40, hp', hlt', e4, hdp, hdU, hif, hpU, hU3, false_implies, true_and, and_self, if_true, Int.toNat_natCast, Int.natCast_nonneg, List.length_map, go_sem]; with_reducible rfl))) | (with_reducible refine wZ hTT (cfZe_ok hk) noM_ok ?_) | (with_reducible refine wa ?_; refine And.intro ?_ ?_; (focus kernel_rfl)))
    refine roundQ.t 3 [24, 22, 20, 8, 7, 2, 3, 6] hlt (by simp only [lP, lB, ltB_lbs, ltB_flds, ltB_is, ltB_isl, go_sem]) (by simp only [go_sem])
  have hlt' : ¬ (i : Int) < V.length := by omega
  obtain rfl : i = V.length := by omega
  repeat (first | (with_reducible (first | apply wA | ((fail_if_success (refine RunQ.seq (x := .region 15 _ _) ?_)); (apply wB)) | apply wC | apply wD | apply wE | apply wF | apply wG | apply wH | apply wI | apply wJ | apply wK | apply wL | apply wM | apply wN | apply wO | apply wP | apply wQ rfl | apply wR | apply wS | apply wT | apply wU)) | ((with_reducible (first | apply wV | apply wW | apply wX | (apply wY [] hTT (cfZe_ok hk) noM_ok mixed; (focus kernel_rfl)))); (focus (simp only [Tryz.f15, hlt', List.length_map, go_sem]; with_reducible rfl))) | ((fail_if_success (with_reducible show RunQ _ (.region 15 _ _) _ _)); (with_reducible refine wZ hTT (cfZe_ok hk) noM_ok ?_)) | (with_reducible refine wa ?_; refine And.intro ?_ ?_; (focus kernel_rfl)))
  refine RunQ.keep [8, 7, 2, 3, 6] (by simp only [go_sem]; rfl) ?_
  obtain ⟨f0, f1, r0, r1, H⟩ := stgIn (s := s) hg
  have hw0 : 0 ≤ w := by omega
  have hw1 : w ≤ 1000 := by omega
  have hzh : zh ≠ .n := fun e => by subst e; rw [H.hs] at hh; cases hh
  have hzr : zr ≠ .n := fun e => by subst e; rw [H.rs] at hr; cases hr
  have he := H.e
  have ha := H.a
  have hb := H.b
  obtain ⟨gz, hgz⟩ : ∃ gz : Stg, gz = ⟨widG g.e w, [widG f0 w, widG f1 w], [r0, r1]⟩ := ⟨_, rfl⟩
  have hdz : decStg (.agg [ii (widG g.e w).a, ii (widG g.e w).b, ii (widG g.e w).c, ii (widG g.e w).d, .sl .f [.agg [ii (widG f0 w).a, ii (widG f0 w).b, ii (widG f0 w).c, ii (widG f0 w).d], .agg [ii (widG f1 w).a, ii (widG f1 w).b, ii (widG f1 w).c, ii (widG f1 w).d]], .sl zr (g.rs.map ii)]) = some gz := by
    rw [hgz, H.rs]; exact decStg_enc (zh := .f) (zr := zr) (g := ⟨widG g.e w, [widG f0 w, widG f1 w], [r0, r1]⟩) rfl (by rw [← H.rs]; exact hr)
  have hdf0 : decFld (.agg [ii f0.a, ii f0.b, ii f0.c, ii f0.d]) = some f0 := rfl
  have hdf1 : decFld (.agg [ii f1.a, ii f1.b, ii f1.c, ii f1.d]) = some f1 := rfl
  have hde : decFld (.agg [ii g.e.a, ii g.e.b, ii g.e.c, ii g.e.d]) = some g.e := rfl
  have hhs : g.hs.map encFld = [.agg [ii f0.a, ii f0.b, ii f0.c, ii f0.d], .agg [ii f1.a, ii f1.b, ii f1.c, ii f1.d]] := by rw [H.hs]; rfl
  have fz : ∀ qs, finG s ls g qs = true → finG s ls gz qs = true := fun qs h => by
    rw [finG_in H] at h
    rw [hgz]
    exact fineG_zz he ha hb hw0 h
  have hgzg : stgG ls gz = true := by
    have hl0 : limbG ls r0 = true := by have := H.l0; simp [limbG, inB]; omega
    have hl1 : limbG ls r1 = true := by have := H.l1; simp [limbG, inB]; omega
    rw [hgz]; simp [stgG, fld_wid he hw0, fld_wid ha hw0, fld_wid hb hw0, hl0, hl1, H.ne]
  rw [hhs] at hd2'
  rw [hhs]
  repeat (first | (with_reducible (first | apply wA | ((fail_if_success (refine RunQ.seq (x := .region 18 _ _) ?_)); (apply wB)) | apply wC | apply wD | apply wE | apply wF | apply wG | apply wH | apply wI | apply wJ | apply wK | apply wL | apply wM | apply wN | apply wO | apply wP | apply wQ rfl | apply wR | apply wS | apply wT | apply wU)) | ((with_reducible (first | apply wV | apply wW | apply wX | (apply wY [] hTT (cfZe_ok hk) noM_ok mixed; (focus kernel_rfl)))); (focus (simp only [Tryz.f15, cfZe, c67, encFld, hde, hdf0, hdf1, he, ha, hb, hw0, hw1, hzh, and_self, if_true, go_sem]; with_reducible rfl))) | ((fail_if_success (with_reducible show RunQ _ (.region 18 _ _) _ _)); (with_reducible refine wZ hTT (cfZe_ok hk) noM_ok ?_)) | (with_reducible refine wa ?_; refine And.intro ?_ ?_; (focus kernel_rfl)))
  refine RunQ.keep [25, 8, 7, 2, 3] (by simp only [go_sem]; rfl) ?_
  obtain ⟨z1, l1, k1, z2, l2, k2, e1, e2, hle⟩ := path_more hf hg hgzg h5 h6 fz
  by_cases hk1 : k1 = 0
  · obtain ⟨hk2, hll⟩ := hle hk1
    subst hk1
    subst hk2
    have hll' : (l2.length : Int) ≤ l1.length := by omega
    repeat (first | (with_reducible (first | apply wA | apply wB | apply wC | apply wD | apply wE | apply wF | apply wG | apply wH | apply wI | apply wJ | apply wK | apply wL | apply wM | apply wN | apply wO | apply wP | apply wQ rfl | apply wR | apply wS | apply wT | apply wU)) | ((with_reducible (first | apply wV | apply wW | apply wX | (apply wY [] hTT (cfZe_ok hk) noM_ok mixed; (focus kernel_rfl)))); (focus (simp only [Tryz.f15, cfZe, c42, c29, hd, hd2', hd3, hd4, hdz, e1, e2, hll', b00, beq_self_eq_true, List.length_map, go_sem]; with_reducible rfl))) | (with_reducible refine wZ hTT (cfZe_ok hk) noM_ok ?_) | (with_reducible refine wa ?_; refine And.intro ?_ ?_; (focus kernel_rfl)))
    exact ⟨rfl, rfl, _, rfl, rfl⟩
  · have hkb : (k1 != 0) = true := by simpa using hk1
    repeat (first | (with_reducible (first | apply wA | apply wB | apply wC | apply wD | apply wE | apply wF | apply wG | apply wH | apply wI | apply wJ | apply wK | apply wL | apply wM | apply wN | apply wO | apply wP | apply wQ rfl | apply wR | apply wS | apply wT | apply wU)) | ((with_reducible (first | apply wV | apply wW | apply wX | (apply wY [] hTT (cfZe_ok hk) noM_ok mixed; (focus kernel_rfl)))); (focus (simp only [Tryz.f15, cfZe, c42, c29, hd, hd2', hd3, hd4, hdz, e1, e2, hkb, go_sem]; with_reducible rfl))) | (with_reducible refine wZ hTT (cfZe_ok hk) noM_ok ?_) | (with_reducible refine wa ?_; refine And.intro ?_ ?_; (focus kernel_rfl)))
    exact ⟨rfl, rfl, _, rfl, rfl⟩
end Go.Pv
