/- Contracts: the first truth of a pose that is not fine, the program's and the reference's. -/
import Derived.Test.YtmnocohggpmjcaaGreatDoorQuTru
import Derived.Test.YtmnocohggpmjcaaGreatDoorQtA
import Derived.Test.YtmnocohggpmjcaaGreatDoorQgEnds
set_option linter.all false
namespace Go.Pv
open Go Go.RowKit Go.Proofs
set_option maxRecDepth 10000
set_option maxHeartbeats 4000000
theorem proof_first {T : List (List Int)} {p : List Int → Bool} {i : Nat} {l : List Int} (h : T[i]? = some l) (hb : ∀ j x, j < i → T[j]? = some x → p x = true) (hl : p l = false) : proofO T p = some l := by
  unfold proofO
  induction T generalizing i with
  | nil => cases h
  | cons a T ih =>
    cases i with
    | zero => cases h; simp [hl]
    | succ i =>
      have ha := hb 0 a (by omega) rfl
      rw [List.find?_cons_of_neg (by simp [ha])]
      exact ih h fun j x hj hx => hb (j + 1) x (by omega) hx
theorem proof_nil {T : List (List Int)} {p : List Int → Bool} (hb : ∀ j x, j < T.length → T[j]? = some x → p x = true) : proofO T p = none := by
  unfold proofO
  rw [List.find?_eq_none]
  intro x hx
  obtain ⟨i, hi⟩ := List.getElem?_of_mem hx
  have := hb i x (List.getElem?_eq_some_iff.1 hi).1 hi
  simp [this]
def cfWc : CallF := cfAdd (cfAdd cf0 109 c109) 97 c97
theorem cfWc_ok : CallFOk Tryz.prog cfWc := cfAdd_ok (cfAdd_ok cf0_ok c109_ok) c97_ok
theorem tru_in {s : Int} {ls : List Lb} {ps : List Int} (hf : figB s ls = true) (hp : poseG ls ps = true) : ∀ x ∈ truS ls ps, -1000 ≤ x.1 ∧ x.1 ≤ 1000 ∧ -1000 ≤ x.2 ∧ x.2 ≤ 1000 := fun x hx => by
  have := tru_bd hf hp x hx; omega
theorem spP_closed (sp : List (Int × Int)) : (spP .a sp).closed = true := by
  show closedL [.sl .a (sp.map spE)] = true
  simp [closedL, PV.closed, closedL_sp]
theorem proof_111 (s : Int) (z zh zr zp : Z) (ls : List Lb) (g : Stg) (ps : List Int) (hzo : zOk z (ls.map encLb) = true) (hh : zOk zh (g.hs.map encFld) = true) (hr : zOk zr (g.rs.map ii) = true) (hzp : zOk zp (ps.map ii) = true) (hf : figB s ls = true) (hg : stgG ls g = true) (hp : poseG ls ps = true) :
    CallOk Tryz.prog 111 [.agg (stgC s z zh zr ls g), .sl zp (ps.map ii)] [] (.ret (proofX s ls g ps)) [] := by
  refine CallOk.ofF hTT Tryz.func111 rfl rfl ?_
  have hd := decFig_enc s z ls hzo
  have hd3 := decIs1_enc hzp
  have hl := fig_len hf
  have hs : ls.length ≤ maxLen := by unfold maxLen; omega
  have hne : ls ≠ [] := fun e => by rw [e] at hl; simp at hl
  have hz : z ≠ .n := fun e => hne (zOk_map hzo e)
  obtain ⟨h0f, h1f, r0, r1, H⟩ := stgIn (s := s) hg
  have hzh : zh ≠ .n := fun e => by subst e; rw [H.hs] at hh; cases hh
  have hzr : zr ≠ .n := fun e => by subst e; rw [H.rs] at hr; cases hr
  have hm0 := H.l0.1
  have hm1 := H.l1.1
  have hKc := closed_stgC s z zh zr ls g
  have hK : stgC s z zh zr ls g = [ii s, .sl z (ls.map encLb), ii g.e.a, ii g.e.b, ii g.e.c, ii g.e.d, .sl zh [.agg [ii h0f.a, ii h0f.b, ii h0f.c, ii h0f.d], .agg [ii h1f.a, ii h1f.b, ii h1f.c, ii h1f.d]], .sl zr [ii r0, ii r1]] := by
    unfold stgC; rw [H.hs, H.rs]; rfl
  rw [hK] at hKc ⊢
  have hdf0 : decFld (.agg [ii h0f.a, ii h0f.b, ii h0f.c, ii h0f.d]) = some h0f := rfl
  have hdf1 : decFld (.agg [ii h1f.a, ii h1f.b, ii h1f.c, ii h1f.d]) = some h1f := rfl
  have hTp : ∀ l ∈ truthsG ls ps, poseG ls l = true := fun l h => truth_pose hp h
  have hit := lists_166 .a (truS ls ps) (by simp) (tru_in hf hp) (by rw [tru_len hp]; omega)
  have hspc := spP_closed (truS ls ps)
  unfold proofX
  repeat (first | (with_reducible (first | apply wA | ((fail_if_success (refine RunQ.seq (x := .region 2 _ _) ?_)); (apply wB)) | apply wC | apply wD | apply wE | apply wF | apply wG | apply wH | apply wI | apply wJ | apply wK | apply wL | apply wM | apply wN | apply wO | apply wP | apply wQ rfl | apply wR | apply wS | apply wT | apply wU)) | ((with_reducible (first | apply wV | apply wW | apply wX | (apply wY [] hTT cfWc_ok noM_ok mixed; (focus kernel_rfl)))); (focus (simp only [Tryz.f111, cfWc, c109, hd, hd3, hf, hp, notYield, go_sem]; with_reducible rfl))) | ((fail_if_success (with_reducible show RunQ _ (.region 2 _ _) _ _)); (with_reducible refine wZ hTT cfWc_ok noM_ok ?_)) | (with_reducible refine wa ?_; refine And.intro ?_ ?_; (focus kernel_rfl)))
  refine RunQ.keep [10, 5, 4, 2] (by simp only [go_sem]; rfl) ?_
  have hTe : exts (truS ls ps) [] = truthsG ls ps := rfl
  rw [hTe] at hit
  generalize truthsG ls ps = T at *
  refine RunQ.range (L := T.map fun l => [pvL l]) (first := []) (cap := [spP .a (truS ls ps)]) rfl (ent Tryz.func166 rfl) hit ?_ ?_ ?_
    (fun i st => st = [.var [ii s, .sl z (ls.map encLb), ii g.e.a, ii g.e.b, ii g.e.c, ii g.e.d, .sl zh [.agg [ii h0f.a, ii h0f.b, ii h0f.c, ii h0f.d], .agg [ii h1f.a, ii h1f.b, ii h1f.c, ii h1f.d]], .sl zr [ii r0, ii r1]] false, .var [.sl .n []] false, .var [.bool false] false] ∧ ∀ j x, j < i → T[j]? = some x → finG s ls g x = true)
    ⟨rfl, fun j x h => absurd h (by omega)⟩ ?_ ?_ ?_
  · intro e he
    obtain ⟨l, _, rfl⟩ := List.mem_map.1 he
    rfl
  · intro p hp
    have hp7 : p = 11 := by simpa using hp
    subst hp7
    show (11 : Nat) < 17
    decide
  · intro t v hv
    obtain ⟨p, hp, rfl⟩ := getT_mem hv
    simp only [List.mem_cons, List.not_mem_nil, or_false] at hp
    rcases hp with rfl | rfl | rfl | rfl
    · refine .fn (fun c hc => by cases hc) fun c hc => ?_
      simp only [List.mem_cons, List.not_mem_nil, or_false] at hc
      subst hc
      exact (lt_of_closed _ hspc).mono (by omega)
    · exact .bp (show (2 : Nat) < 4 by decide)
    · exact .bp (show (1 : Nat) < 4 by decide)
    · exact .bp (show (0 : Nat) < 4 by decide)
  · rintro i st ⟨rfl, _⟩
    refine ⟨rfl, fun x hx => ?_, sameLoops_of _ _ rfl⟩
    simp only [List.mem_cons, List.not_mem_nil, or_false] at hx
    rcases hx with rfl | rfl | rfl
    · exact fun c hc => (lt_of_closedL _ hKc c hc).mono (Nat.zero_le _)
    · exact fun c hc => (lt_of_closedL _ (show closedL [.sl .n []] = true from rfl) c hc).mono (Nat.zero_le _)
    · exact fun c hc => (lt_of_closedL _ (show closedL [.bool false] = true from rfl) c hc).mono (Nat.zero_le _)
  · rintro i e st he ⟨rfl, hbef⟩
    obtain ⟨l, hl2, rfl⟩ : ∃ l, T[i]? = some l ∧ e = [pvL l] := by
      rw [List.getElem?_map, Option.map_eq_some_iff] at he
      obtain ⟨l, a, rfl⟩ := he
      exact ⟨l, a, rfl⟩
    have hpl : poseG ls l = true := hTp l (List.mem_of_getElem? hl2)
    obtain ⟨zn, hzn, hzk⟩ := pvL_z l
    have hd3' := decIs1_enc hzk
    have g0 := ends_get hf hpl H.l0
    have g1 := ends_get hf hpl H.l1
    have hel : (ends s ls l).length ≤ maxLen := by rw [ends_ln hf hpl]; exact hs
    have hfg := finG_in H l
    generalize hp0 : (ends s ls l).getD r0.toNat (0, 0) = p0 at g0 hfg
    generalize hp1 : (ends s ls l).getD r1.toNat (0, 0) = p1 at g1 hfg
    rw [hzn]
    cases hfi : finG s ls g l
    · rw [hfi] at hfg
      have hpo := proof_first hl2 hbef hfi
      refine .ret [.var [ii s, .sl z (ls.map encLb), ii g.e.a, ii g.e.b, ii g.e.c, ii g.e.d, .sl zh [.agg [ii h0f.a, ii h0f.b, ii h0f.c, ii h0f.d], .agg [ii h1f.a, ii h1f.b, ii h1f.c, ii h1f.d]], .sl zr [ii r0, ii r1]] false, .var [.sl zn (l.map ii)] false, .var [.bool true] false] rfl ?_ (sameLoops_of _ _ rfl) ?_ fun own ho => ?_
      · intro x hx
        simp only [List.mem_cons, List.not_mem_nil, or_false] at hx
        rcases hx with rfl | rfl | rfl
        · exact fun c hc => (lt_of_closedL _ hKc c hc).mono (Nat.zero_le _)
        · exact fun c hc => by
            simp only [List.mem_cons, List.not_mem_nil, or_false] at hc
            subst hc
            exact (lt_of_closed _ (show (PV.sl zn (l.map ii)).closed = true from closedL_is l)).mono (Nat.zero_le _)
        · exact fun c hc => (lt_of_closedL _ (show closedL [.bool true] = true from rfl) c hc).mono (Nat.zero_le _)
      · have hR : proofW (some l) = .tuple [.sl zn (l.map ii), .bool true] := by
          show PV.tuple [pvL l, .bool true] = _
          rw [hzn]
        rw [hpo, hR]
        exact ⟨rfl, rfl, _, rfl, leave_closed (show closedL [.sl zn (l.map ii), .bool true] = true from by simp [closedL, PV.closed, closedL_is])⟩
      · unfold YRun
        generalize hX : Box.loop _ = X1
        repeat (first | (with_reducible (first | apply wA | apply wB | apply wC | apply wD | apply wE | apply wF | apply wG | apply wH | apply wI | apply wJ | apply wK | apply wL | apply wM | apply wN | apply wO | apply wP | apply wQ rfl | apply wR | apply wS | apply wT | apply wU)) | ((with_reducible (first | apply wV | apply wW | apply wX | (apply wY [] hTT cfWc_ok noM_ok mixed; (focus kernel_rfl)))); (focus (simp only [Tryz.f111, putPs, List.toList_toArray, go_sem]; with_reducible rfl))) | (with_reducible refine wZ hTT cfWc_ok noM_ok ?_) | (with_reducible refine wa ?_; refine And.intro ?_ ?_; (focus kernel_rfl)))
        refine ⟨rfl, own, by rw [← hX]; rfl, ?_⟩
        dsimp only
        generalize hX2 : Box.loop _ = X2
        repeat (first | (with_reducible (first | apply wA | apply wB | apply wC | apply wD | apply wE | apply wF | apply wG | apply wH | apply wI | apply wJ | apply wK | apply wL | apply wM | apply wN | apply wO | apply wP | apply wQ rfl | apply wR | apply wS | apply wT | apply wU)) | ((with_reducible (first | apply wV | apply wW | apply wX | (apply wY [] hTT cfWc_ok noM_ok mixed; (focus kernel_rfl)))); (focus (simp only [Tryz.f111, cfWc, c97, hd, hd3', hf, hpl, hm0, hm1, hzh, hzr, hel, hdf0, hdf1, g0, g1, hfg.symm, go_sem]; with_reducible rfl))) | (with_reducible refine wZ hTT cfWc_ok noM_ok ?_) | (with_reducible refine wa ?_; refine And.intro ?_ ?_; (focus kernel_rfl)))
        exact ⟨rfl, [], by rw [← hX2]; simp⟩
    · rw [hfi] at hfg
      refine .next _ ⟨rfl, fun j x hj hx => ?_⟩ fun own ho => ?_
      · by_cases hji : j = i
        · subst hji; rw [hl2] at hx; cases hx; exact hfi
        · exact hbef j x (by omega) hx
      · unfold YRun
        generalize hX : Box.loop _ = X1
        repeat (first | (with_reducible (first | apply wA | apply wB | apply wC | apply wD | apply wE | apply wF | apply wG | apply wH | apply wI | apply wJ | apply wK | apply wL | apply wM | apply wN | apply wO | apply wP | apply wQ rfl | apply wR | apply wS | apply wT | apply wU)) | ((with_reducible (first | apply wV | apply wW | apply wX | (apply wY [] hTT cfWc_ok noM_ok mixed; (focus kernel_rfl)))); (focus (simp only [Tryz.f111, putPs, List.toList_toArray, go_sem]; with_reducible rfl))) | (with_reducible refine wZ hTT cfWc_ok noM_ok ?_) | (with_reducible refine wa ?_; refine And.intro ?_ ?_; (focus kernel_rfl)))
        refine ⟨rfl, own, by rw [← hX]; rfl, ?_⟩
        dsimp only
        generalize hX2 : Box.loop _ = X2
        repeat (first | (with_reducible (first | apply wA | apply wB | apply wC | apply wD | apply wE | apply wF | apply wG | apply wH | apply wI | apply wJ | apply wK | apply wL | apply wM | apply wN | apply wO | apply wP | apply wQ rfl | apply wR | apply wS | apply wT | apply wU)) | ((with_reducible (first | apply wV | apply wW | apply wX | (apply wY [] hTT cfWc_ok noM_ok mixed; (focus kernel_rfl)))); (focus (simp only [Tryz.f111, cfWc, c97, hd, hd3', hf, hpl, hm0, hm1, hzh, hzr, hel, hdf0, hdf1, g0, g1, hfg.symm, go_sem]; with_reducible rfl))) | (with_reducible refine wZ hTT cfWc_ok noM_ok ?_) | (with_reducible refine wa ?_; refine And.intro ?_ ?_; (focus kernel_rfl)))
        exact ⟨rfl, [], by rw [← hX2]; simp⟩
  · rintro st ⟨rfl, hbef⟩
    rw [List.length_map] at hbef
    rw [proof_nil hbef]
    repeat (first | (with_reducible (first | apply wA | apply wB | apply wC | apply wD | apply wE | apply wF | apply wG | apply wH | apply wI | apply wJ | apply wK | apply wL | apply wM | apply wN | apply wO | apply wP | apply wQ rfl | apply wR | apply wS | apply wT | apply wU)) | ((with_reducible (first | apply wV | apply wW | apply wX | (apply wY [] hTT cfWc_ok noM_ok mixed; (focus kernel_rfl)))); (focus (simp only [Tryz.f111, go_sem]; with_reducible rfl))) | (with_reducible refine wZ hTT cfWc_ok noM_ok ?_) | (with_reducible refine wa ?_; refine And.intro ?_ ?_; (focus kernel_rfl)))
    exact ⟨rfl, rfl, _, rfl, leave_closed rfl⟩
def c111 : List PV → List Box → Option (PRes × List Box)
  | [.agg cs, p], sg => match decSt cs, decIs1 p with
    | some (s, z, zh, zr, ls, g), some ps => if zOk z (ls.map encLb) = true ∧ zOk zh (g.hs.map encFld) = true ∧ zOk zr (g.rs.map ii) = true ∧ figB s ls = true ∧ stgG ls g = true ∧ poseG ls ps = true then some (.ret (proofX s ls g ps), sg) else none
    | _, _ => none
  | _, _ => none
theorem c111_ok : ConOk Tryz.prog 111 c111 := ConOk.of0 (ent Tryz.func111 rfl) fun args sg r sg' h => by
  unfold c111 at h
  split at h <;> try (cases h; done)
  split at h <;> try (cases h; done)
  rename_i h1 h3
  split at h <;> cases h
  rename_i hc
  obtain rfl := decSt_inv h1
  obtain ⟨zp, rfl, hp⟩ := decIs1_inv h3
  exact ⟨_, rfl, rfl, by rw [ltBL_cons, ltB_agg, ltBL_of_closed 0 _ (closed_stgC _ _ _ _ _ _), ltBL_cons, ltB_isl]; rfl, proof_111 _ _ _ _ _ _ _ _ hc.1 hc.2.1 hc.2.2.1 (zOk_n' hp) hc.2.2.2.1 hc.2.2.2.2.1 hc.2.2.2.2.2⟩
end Go.Pv
namespace Go.Pv
open Go Go.RowKit Go.Proofs
set_option maxRecDepth 10000
set_option maxHeartbeats 4000000
theorem Truths_110 (s : Int) (z zp : Z) (ls : List Lb) (ps : List Int) (hzo : zOk z (ls.map encLb) = true) (hzp : zOk zp (ps.map ii) = true) (hf : figB s ls = true) (hp : poseG ls ps = true) :
    CallOk Tryz.prog 110 [.agg [ii s, .sl z (ls.map encLb)], .sl zp (ps.map ii)] [] (.ret (.sl .a ((truthsG ls ps).map pvL))) [] := by
  refine CallOk.ofF hTT Tryz.func110 rfl rfl ?_
  have hl := fig_len hf
  have hne : ls ≠ [] := fun e => by rw [e] at hl; simp at hl
  have hz : z ≠ .n := fun e => hne (zOk_map hzo e)
  have hpl := (pose_at hp).1
  have hpne : ps ≠ [] := fun e => by rw [e] at hpl; simp at hpl; omega
  have hzq : zp ≠ .n := fun e => hpne (zOk_map hzp e)
  obtain ⟨_, _, _, _, hlb⟩ := fig_limbs hf
  have htl := tru_len hp
  have htne : truS ls ps ≠ [] := fun e => by rw [e] at htl; simp at htl; omega
  repeat (first | (with_reducible (first | apply wA | apply wB | apply wC | apply wD | apply wE | apply wF | apply wG | apply wH | apply wI | apply wJ | apply wK | apply wL | apply wM | apply wN | apply wO | apply wP | apply wQ rfl | apply wR | apply wS | apply wT | apply wU)) | ((with_reducible (first | apply wV | apply wW | apply wX | (apply wY [] hTT cf0_ok noM_ok mixed; (focus kernel_rfl)))); (focus (simp only [Tryz.f110, go_sem]; with_reducible rfl))) | (with_reducible refine wZ hTT cf0_ok noM_ok ?_) | (with_reducible refine wa ?_; refine And.intro ?_ ?_; (focus kernel_rfl)))
  refine RunQ.keep [7, 6, 5, 4, 2, 1] (by simp only [go_sem]; rfl) ?_
  refine RunQ.nilRow 5 3 1 (by simp only [go_sem]) (by simp only [go_sem]; rfl) (by simp only [go_sem]; rfl) ?_
  refine RunQ.nilRow 6 3 1 (by simp only [go_sem]) (by simp only [go_sem]; rfl) (by simp only [go_sem]; rfl) ?_
  refine RunQ.loop (fun i s' => s' = ⟨[(7, ii i), (6, .ms 2 i), (5, .ms 1 i), (4, .sl .n []), (2, .bp 0 0), (1, .sl zp (ps.map ii))], 49, [.var [ii s, .sl z (ls.map encLb)] false, .row (decide (i = 0)) 3 1 ((((truS ls ps).take i).map (·.1)).map ii) false, .row (decide (i = 0)) 3 1 ((((truS ls ps).take i).map (·.2)).map ii) false]⟩)
    ps.length rfl ?_
  rintro i _ hi rfl
  by_cases hlt : i < ps.length
  · obtain ⟨x, hx⟩ : ∃ x, ls[i]? = some x := ⟨_, List.getElem?_eq_getElem (by omega)⟩
    obtain ⟨t, ht⟩ : ∃ t, ps[i]? = some t := ⟨_, List.getElem?_eq_getElem hlt⟩
    have hx' : (ls.map encLb)[i]? = some (.agg [ii x.p, ii x.l, ii x.lo, ii x.hi, ii x.w]) := map_get hx
    have ht' : (ps.map ii)[i]? = some (ii t) := map_get ht
    have hlt' : (i : Int) < ps.length := by omega
    have hb1 := lb_w (hlb i x hx)
    have hb2 := (pose_at hp).2 i x t hx ht
    have e4 : IntKind.i64.wrap ((i : Int) + 1) = ((i + 1 : Nat) : Int) := wrap_id (by omega) (by omega)
    have e5 : IntKind.i64.wrap (t - x.w) = t - x.w := wrap_id (by omega) (by omega)
    have e6 : IntKind.i64.wrap (t + x.w) = t + x.w := wrap_id (by omega) (by omega)
    have r2 : i + 1 ≤ maxLen := by unfold maxLen; omega
    have r3 : (i + 1) * 8 ≤ 140737488355328 := by omega
    have hd1 : decide (i + 1 = 0) = false := by simp
    have ht1 : (((truS ls ps).take (i + 1)).map (·.1)).map ii = (((truS ls ps).take i).map (·.1)).map ii ++ [ii (max x.lo (t - x.w))] := by
      rw [tru_take hx ht]; simp
    have ht2 : (((truS ls ps).take (i + 1)).map (·.2)).map ii = (((truS ls ps).take i).map (·.2)).map ii ++ [ii (min x.hi (t + x.w))] := by
      rw [tru_take hx ht]; simp
    have hn1 : (((truS ls ps).take i).map (·.1)).length = i := by simp; omega
    have hn2 : (((truS ls ps).take i).map (·.2)).length = i := by simp; omega
    repeat (first | (with_reducible (first | apply wA | apply wB | apply wC | apply wD | apply wE | apply wF | apply wG | apply wH | apply wI | apply wJ | apply wK | apply wL | apply wM | apply wN | apply wO | apply wP | apply wQ rfl | apply wR | apply wS | apply wT | apply wU)) | ((with_reducible (first | apply wV | apply wW | apply wX | (apply wY [] hTT cf0_ok noM_ok mixed; (focus kernel_rfl)))); (focus (simp only [Tryz.f110, hx', ht', hlt', hz, hzq, e4, e5, e6, r2, r3, hn1, hn2, mx2, mn2, go_sem]; with_reducible rfl))) | (with_reducible refine wZ hTT cf0_ok noM_ok ?_) | (with_reducible refine wa ?_; refine And.intro ?_ ?_; (focus kernel_rfl)))
    refine roundQ.t 3 [7, 6, 5, 4, 2, 1] hlt (by simp only [ltB_is, ltB_lbs, go_sem]) (by rw [ht1, ht2]; simp only [hd1, go_sem])
  · have hlt' : ¬ (i : Int) < ps.length := by omega
    obtain rfl : i = ps.length := by omega
    have hi0 : decide (ps.length = 0) = false := by simp [hpne]
    have htk : (truS ls ps).take ps.length = truS ls ps := List.take_of_length_le (by omega)
    rw [hi0, htk]
    have hc := (between_138 .a .a (truS ls ps) (by simp) (by simp) htne (by omega) (tru_bd hf hp))
    repeat (first | (with_reducible (first | apply wA | ((fail_if_success (refine RunQ.seq (x := .region 7 _ _) ?_)); (apply wB)) | apply wC | apply wD | apply wE | apply wF | apply wG | apply wH | apply wI | apply wJ | apply wK | apply wL | apply wM | apply wN | apply wO | apply wP | apply wQ rfl | apply wR | apply wS | apply wT | apply wU)) | ((with_reducible (first | apply wV | apply wW | apply wX | (apply wY [] hTT cf0_ok noM_ok mixed; (focus kernel_rfl)))); (focus (simp only [Tryz.f110, hlt', hzq, go_sem]; with_reducible rfl))) | ((fail_if_success (with_reducible show RunQ _ (.region 7 _ _) _ _)); (with_reducible refine wZ hTT cf0_ok noM_ok ?_)) | (with_reducible refine wa ?_; refine And.intro ?_ ?_; (focus kernel_rfl)))
    refine RunQ.freeze 5 1 (es := ((truS ls ps).map (·.1)).map ii) (by simp only [go_sem]; rfl) rfl (by simp [htl, hpl]) (closedL_is _) (by simp only [go_sem]; rfl) (by simp only [go_sem]; rfl) ?_
    refine RunQ.freeze 6 2 (es := ((truS ls ps).map (·.2)).map ii) (by simp only [go_sem]; rfl) rfl (by simp [htl, hpl]) (closedL_is _) (by simp only [go_sem]; rfl) (by simp only [go_sem]; rfl) ?_
    have hfr := hc.frame (fun x hx => by
      simp only [List.mem_cons, List.not_mem_nil, or_false] at hx
      rcases hx with rfl | rfl
      · exact lt_of_closed _ (closedL_is _)
      · exact lt_of_closed _ (closedL_is _)) [.var [ii s, .sl z (ls.map encLb)] false, .row false 3 1 (((truS ls ps).map (·.1)).map ii) true, .row false 3 1 (((truS ls ps).map (·.2)).map ii) true]
    repeat (first | (with_reducible (first | apply wA | apply wB | apply wC | apply wD | apply wE | apply wF | apply wG | apply wH | apply wI | apply wJ | apply wK | apply wL | apply wM | apply wN | apply wO | apply wP | apply wQ rfl | apply wR | apply wS | apply wT | apply wU)) | ((with_reducible (first | apply wV | apply wW | apply wX | (apply wY [] hTT (cfOne_ok cf0_ok (ent Tryz.func138 rfl) hfr (SameLoops.refl _)) noM_ok mixed; (focus kernel_rfl)))); (focus (simp only [Tryz.f110, cfOne, go_sem]; with_reducible rfl))) | (with_reducible refine wZ hTT (cfOne_ok cf0_ok (ent Tryz.func138 rfl) hfr (SameLoops.refl _)) noM_ok ?_) | (with_reducible refine wa ?_; refine And.intro ?_ ?_; (focus kernel_rfl)))
    exact ⟨rfl, rfl, _, rfl, leave_closed (closedL_pv _)⟩
def c110 : List PV → List Box → Option (PRes × List Box)
  | [v, p], sg => match decFig v, decIs1 p with
    | some (s, ls), some ps => if figB s ls = true ∧ poseG ls ps = true then some (.ret (.sl .a ((truthsG ls ps).map pvL)), sg) else none
    | _, _ => none
  | _, _ => none
theorem c110_ok : ConOk Tryz.prog 110 c110 := ConOk.of0 (ent Tryz.func110 rfl) fun args sg r sg' h => by
  unfold c110 at h
  split at h <;> try (cases h; done)
  split at h <;> try (cases h; done)
  rename_i h1 h3
  split at h <;> cases h
  rename_i hc
  obtain ⟨z, rfl, hz⟩ := decFig_inv h1
  obtain ⟨zp, rfl, hp⟩ := decIs1_inv h3
  exact ⟨_, rfl, rfl, by rw [ltBL_cons, ltB_fig, ltBL_cons, ltB_isl]; rfl, Truths_110 _ _ _ _ _ (zOk_n' hz) (zOk_n' hp) hc.1 hc.2⟩
end Go.Pv
namespace Go.Pv
open Go Go.RowKit Go.Proofs
set_option maxRecDepth 10000
set_option maxHeartbeats 4000000
def cfWf : CallF := cfAdd (cfAdd cf0 110 c110) 44 c44
theorem cfWf_ok : CallFOk Tryz.prog cfWf := cfAdd_ok (cfAdd_ok cf0_ok c110_ok) c44_ok
theorem RProof_58 (s : Int) (z zh zr zp : Z) (ls : List Lb) (g : Stg) (ps : List Int) (hzo : zOk z (ls.map encLb) = true) (hh : zOk zh (g.hs.map encFld) = true) (hr : zOk zr (g.rs.map ii) = true) (hzp : zOk zp (ps.map ii) = true) (hf : figB s ls = true) (hg : stgG ls g = true) (hp : poseG ls ps = true) :
    CallOk Tryz.prog 58 [.agg [ii s, .sl z (ls.map encLb)], encStg zh zr g, .sl zp (ps.map ii)] [] (.ret (proofX s ls g ps)) [] := by
  refine CallOk.ofF hTT Tryz.func58 rfl rfl ?_
  have hd := decFig_enc s z ls hzo
  have hd2 := decStg_enc hh hr
  have hd0 := decIs1_enc hzp
  unfold encStg at hd2 ⊢
  have hTl := truths_len hf hp
  have hTp : ∀ l ∈ truthsG ls ps, poseG ls l = true := fun l h => truth_pose hp h
  unfold proofX
  repeat (first | (with_reducible (first | apply wA | apply wB | apply wC | apply wD | apply wE | apply wF | apply wG | apply wH | apply wI | apply wJ | apply wK | apply wL | apply wM | apply wN | apply wO | apply wP | apply wQ rfl | apply wR | apply wS | apply wT | apply wU)) | ((with_reducible (first | apply wV | apply wW | apply wX | (apply wY [] hTT cfWf_ok noM_ok mixed; (focus kernel_rfl)))); (focus (simp only [Tryz.f58, cfWf, c110, hd, hd0, hf, hp, go_sem]; with_reducible rfl))) | (with_reducible refine wZ hTT cfWf_ok noM_ok ?_) | (with_reducible refine wa ?_; refine And.intro ?_ ?_; (focus kernel_rfl)))
  generalize truthsG ls ps = T at *
  refine RunQ.keep [9, 8, 4, 3] (by simp only [go_sem]; rfl) ?_
  refine RunQ.loop (fun i s' => (∀ j x, j < i → T[j]? = some x → finG s ls g x = true) ∧ s' = ⟨[(9, ii i), (8, .sl .a (T.map pvL)), (4, .bp 1 0), (3, .bp 0 0)], 31, [.var [ii s, .sl z (ls.map encLb)] false, .var [ii g.e.a, ii g.e.b, ii g.e.c, ii g.e.d, .sl zh (g.hs.map encFld), .sl zr (g.rs.map ii)] false]⟩)
    T.length ⟨fun j x h => absurd h (by omega), rfl⟩ ?_
  rintro i _ hi ⟨hbef, rfl⟩
  by_cases hlt : i < T.length
  · obtain ⟨l, hx⟩ : ∃ l, T[i]? = some l := ⟨_, List.getElem?_eq_getElem hlt⟩
    obtain ⟨zn, hzn, hzk⟩ := pvL_z l
    have hx' : (T.map pvL)[i]? = some (.sl zn (l.map ii)) := by rw [← hzn]; exact map_get hx
    have hpl := hTp l (List.mem_of_getElem? hx)
    have hd3 := decIs1_enc hzk
    have hlt' : (i : Int) < T.length := by omega
    have e4 : IntKind.i64.wrap ((i : Int) + 1) = ((i + 1 : Nat) : Int) := wrap_id (by omega) (by omega)
    cases hfi : finG s ls g l
    · rw [proof_first hx hbef hfi]
      repeat (first | (with_reducible (first | apply wA | apply wB | apply wC | apply wD | apply wE | apply wF | apply wG | apply wH | apply wI | apply wJ | apply wK | apply wL | apply wM | apply wN | apply wO | apply wP | apply wQ rfl | apply wR | apply wS | apply wT | apply wU)) | ((with_reducible (first | apply wV | apply wW | apply wX | (apply wY [] hTT cfWf_ok noM_ok mixed; (focus kernel_rfl)))); (focus (simp only [Tryz.f58, cfWf, c44, closedL_lbs, closedL_flds, closedL_is, hd, hd2, hd3, hf, hg, hpl, hfi, hx', hlt', List.length_map, go_sem]; with_reducible rfl))) | (with_reducible refine wZ hTT cfWf_ok noM_ok ?_) | (with_reducible refine wa ?_; refine And.intro ?_ ?_; (focus kernel_rfl)))
      have hc0 : (pvL l).closed = true := pvL_closed l
      unfold proofW
      dsimp only
      rw [hzn] at hc0 ⊢
      exact ⟨rfl, rfl, _, rfl, leave_closed (show closedL [.sl zn (l.map ii), .bool true] = true from by simp only [closedL, hc0]; rfl)⟩
    · repeat (first | (with_reducible (first | apply wA | apply wB | apply wC | apply wD | apply wE | apply wF | apply wG | apply wH | apply wI | apply wJ | apply wK | apply wL | apply wM | apply wN | apply wO | apply wP | apply wQ rfl | apply wR | apply wS | apply wT | apply wU)) | ((with_reducible (first | apply wV | apply wW | apply wX | (apply wY [] hTT cfWf_ok noM_ok mixed; (focus kernel_rfl)))); (focus (simp only [Tryz.f58, cfWf, c44, closedL_lbs, closedL_flds, closedL_is, hd, hd2, hd3, hf, hg, hpl, hfi, hx', hlt', e4, List.length_map, go_sem]; with_reducible rfl))) | (with_reducible refine wZ hTT cfWf_ok noM_ok ?_) | (with_reducible refine wa ?_; refine And.intro ?_ ?_; (focus kernel_rfl)))
      refine roundQ.t 2 [9, 8, 4, 3] hlt (by simp only [ltB_is, ltB_lbs, ltB_flds, ltB_pv, ltB_sl, ltB_int, ltBL_cons, ltBL_nil, go_sem]) ⟨fun j x hj hxx => by
        by_cases hji : j = i
        · subst hji; rw [hx] at hxx; cases hxx; exact hfi
        · exact hbef j x (by omega) hxx, by simp only [go_sem]⟩
  · have hlt' : ¬ (i : Int) < T.length := by omega
    obtain rfl : i = T.length := by omega
    rw [proof_nil hbef]
    repeat (first | (with_reducible (first | apply wA | apply wB | apply wC | apply wD | apply wE | apply wF | apply wG | apply wH | apply wI | apply wJ | apply wK | apply wL | apply wM | apply wN | apply wO | apply wP | apply wQ rfl | apply wR | apply wS | apply wT | apply wU)) | ((with_reducible (first | apply wV | apply wW | apply wX | (apply wY [] hTT cfWf_ok noM_ok mixed; (focus kernel_rfl)))); (focus (simp only [Tryz.f58, hlt', List.length_map, go_sem]; with_reducible rfl))) | (with_reducible refine wZ hTT cfWf_ok noM_ok ?_) | (with_reducible refine wa ?_; refine And.intro ?_ ?_; (focus kernel_rfl)))
    exact ⟨rfl, rfl, _, rfl, leave_closed rfl⟩
def c58 : List PV → List Box → Option (PRes × List Box)
  | [v, w, p], sg => match decFig v, decStg w, decIs1 p with
    | some (s, ls), some g, some ps => if figB s ls = true ∧ stgG ls g = true ∧ poseG ls ps = true then some (.ret (proofX s ls g ps), sg) else none
    | _, _, _ => none
  | _, _ => none
theorem c58_ok : ConOk Tryz.prog 58 c58 := ConOk.of0 (ent Tryz.func58 rfl) fun args sg r sg' h => by
  unfold c58 at h
  split at h <;> try (cases h; done)
  split at h <;> try (cases h; done)
  rename_i h1 h2 h3
  split at h <;> cases h
  rename_i hc
  obtain ⟨z, rfl, hz⟩ := decFig_inv h1
  obtain ⟨zh, zr, rfl, hh, hr⟩ := decStg_inv h2
  obtain ⟨zp, rfl, hp⟩ := decIs1_inv h3
  exact ⟨_, rfl, rfl, by rw [ltBL_cons, ltB_fig, ltBL_cons, ltB_stg, ltBL_cons, ltB_isl]; rfl, RProof_58 _ _ _ _ _ _ _ _ (zOk_n' hz) hh hr (zOk_n' hp) hc.1 hc.2.1 hc.2.2⟩
end Go.Pv
namespace Go.Pv
open Go Go.RowKit Go.Proofs
set_option maxRecDepth 10000
set_option maxHeartbeats 4000000
def cfWs : CallF := cfAdd (cfAdd (cfAdd (cfAdd (cfAdd cf0 85 c85) 96 c96) 86 c86) 109 c109) 97 c97
theorem cfWs_ok : CallFOk Tryz.prog cfWs := cfAdd_ok (cfAdd_ok (cfAdd_ok (cfAdd_ok (cfAdd_ok cf0_ok c85_ok) c96_ok) c86_ok) c109_ok) c97_ok
theorem Sure_55 (s : Int) (z zh zr zp : Z) (ls : List Lb) (g : Stg) (ps : List Int) (hzo : zOk z (ls.map encLb) = true) (hh : zOk zh (g.hs.map encFld) = true) (hr : zOk zr (g.rs.map ii) = true) (hzp : zOk zp (ps.map ii) = true) :
    CallOk Tryz.prog 55 [.agg [ii s, .sl z (ls.map encLb)], encStg zh zr g, .sl zp (ps.map ii)] [] (.ret (sureR s ls g ps)) [] := by
  refine CallOk.ofF hTT Tryz.func55 rfl rfl ?_
  have hd := decFig_enc s z ls hzo
  have hd2 := decStg_enc hh hr
  have hd3 := decIs1_enc hzp
  unfold sureR
  cases a0 : figB s ls
  · unfold encStg at hd2 ⊢
    repeat (first | (with_reducible (first | apply wA | apply wB | apply wC | apply wD | apply wE | apply wF | apply wG | apply wH | apply wI | apply wJ | apply wK | apply wL | apply wM | apply wN | apply wO | apply wP | apply wQ rfl | apply wR | apply wS | apply wT | apply wU)) | ((with_reducible (first | apply wV | apply wW | apply wX | (apply wY [] hTT cfWs_ok noM_ok mixed; (focus kernel_rfl)))); (focus (simp only [Tryz.f55, cfWs, c85, hd, a0, notYield, go_sem]; with_reducible rfl))) | (with_reducible refine wZ hTT cfWs_ok noM_ok ?_) | (with_reducible refine wa ?_; refine And.intro ?_ ?_; (focus kernel_rfl)))
    exact ⟨rfl, rfl, _, rfl, leave_closed rfl⟩
  have hl := fig_len a0
  have hs : ls.length ≤ maxLen := by unfold maxLen; omega
  have hs2 : ls.length ≤ 1000 := by omega
  cases a1 : stgG ls g
  · unfold encStg at hd2 ⊢
    repeat (first | (with_reducible (first | apply wA | apply wB | apply wC | apply wD | apply wE | apply wF | apply wG | apply wH | apply wI | apply wJ | apply wK | apply wL | apply wM | apply wN | apply wO | apply wP | apply wQ rfl | apply wR | apply wS | apply wT | apply wU)) | ((with_reducible (first | apply wV | apply wW | apply wX | (apply wY [] hTT cfWs_ok noM_ok mixed; (focus kernel_rfl)))); (focus (simp only [Tryz.f55, cfWs, c85, c96, hd, hd2, a0, a1, hs, notYield, go_sem]; with_reducible rfl))) | (with_reducible refine wZ hTT cfWs_ok noM_ok ?_) | (with_reducible refine wa ?_; refine And.intro ?_ ?_; (focus kernel_rfl)))
    exact ⟨rfl, rfl, _, rfl, leave_closed rfl⟩
  cases a2 : poseG ls ps
  · unfold encStg at hd2 ⊢
    repeat (first | (with_reducible (first | apply wA | apply wB | apply wC | apply wD | apply wE | apply wF | apply wG | apply wH | apply wI | apply wJ | apply wK | apply wL | apply wM | apply wN | apply wO | apply wP | apply wQ rfl | apply wR | apply wS | apply wT | apply wU)) | ((with_reducible (first | apply wV | apply wW | apply wX | (apply wY [] hTT cfWs_ok noM_ok mixed; (focus kernel_rfl)))); (focus (simp only [Tryz.f55, cfWs, c85, c96, c86, hd, hd2, hd3, a0, a1, a2, hs, hs2, notYield, go_sem]; with_reducible rfl))) | (with_reducible refine wZ hTT cfWs_ok noM_ok ?_) | (with_reducible refine wa ?_; refine And.intro ?_ ?_; (focus kernel_rfl)))
    exact ⟨rfl, rfl, _, rfl, leave_closed rfl⟩
  rw [if_pos ⟨rfl, rfl, rfl⟩]
  obtain ⟨h0f, h1f, r0, r1, H⟩ := stgIn (s := s) a1
  have hzh : zh ≠ .n := fun e => by subst e; rw [H.hs] at hh; cases hh
  have hzr : zr ≠ .n := fun e => by subst e; rw [H.rs] at hr; cases hr
  have hm0 := H.l0.1
  have hm1 := H.l1.1
  have hdf0 : decFld (.agg [ii h0f.a, ii h0f.b, ii h0f.c, ii h0f.d]) = some h0f := rfl
  have hdf1 : decFld (.agg [ii h1f.a, ii h1f.b, ii h1f.c, ii h1f.d]) = some h1f := rfl
  have hKc := closed_stgC s z zh zr ls g
  unfold stgC at hKc
  unfold encStg at hd2 ⊢
  rw [H.hs, H.rs] at hd2 hKc ⊢
  simp only [List.map_cons, List.map_nil] at hd2 hKc ⊢
  unfold encFld at hd2 hKc ⊢
  have hTp : ∀ l ∈ truthsG ls ps, poseG ls l = true := fun l h => truth_pose a2 h
  have hTl := truths_len a0 a2
  have hit := lists_166 .a (truS ls ps) (by simp) (tru_in a0 a2) (by rw [tru_len a2]; omega)
  have hspc := spP_closed (truS ls ps)
  repeat (first | (with_reducible (first | apply wA | ((fail_if_success (refine RunQ.seq (x := .region 6 _ _) ?_)); (apply wB)) | apply wC | apply wD | apply wE | apply wF | apply wG | apply wH | apply wI | apply wJ | apply wK | apply wL | apply wM | apply wN | apply wO | apply wP | apply wQ rfl | apply wR | apply wS | apply wT | apply wU)) | ((with_reducible (first | apply wV | apply wW | apply wX | (apply wY [] hTT cfWs_ok noM_ok mixed; (focus kernel_rfl)))); (focus (simp only [Tryz.f55, cfWs, c85, c96, c86, c109, hd, hd2, hd3, a0, a1, a2, hs, hs2, notYield, go_sem]; with_reducible rfl))) | ((fail_if_success (with_reducible show RunQ _ (.region 6 _ _) _ _)); (with_reducible refine wZ hTT cfWs_ok noM_ok ?_)) | (with_reducible refine wa ?_; refine And.intro ?_ ?_; (focus kernel_rfl)))
  refine RunQ.keep [32, 10, 9, 8] (by simp only [go_sem]; rfl) ?_
  have hTe : exts (truS ls ps) [] = truthsG ls ps := rfl
  rw [hTe] at hit
  generalize truthsG ls ps = T at *
  have hcf : closedL [ii s, .sl z (ls.map encLb)] = true := by simp [closedL, PV.closed, closedL_lbs]
  have hcs : closedL [ii g.e.a, ii g.e.b, ii g.e.c, ii g.e.d, .sl zh [.agg [ii h0f.a, ii h0f.b, ii h0f.c, ii h0f.d], .agg [ii h1f.a, ii h1f.b, ii h1f.c, ii h1f.d]], .sl zr [ii r0, ii r1]] = true := by simp [closedL, PV.closed]
  refine RunQ.range (L := T.map fun l => [pvL l]) (first := []) (cap := [spP .a (truS ls ps)]) rfl (ent Tryz.func166 rfl) hit ?_ ?_ ?_
    (fun i st => st = [.var [ii s, .sl z (ls.map encLb)] false, .var [ii g.e.a, ii g.e.b, ii g.e.c, ii g.e.d, .sl zh [.agg [ii h0f.a, ii h0f.b, ii h0f.c, ii h0f.d], .agg [ii h1f.a, ii h1f.b, ii h1f.c, ii h1f.d]], .sl zr [ii r0, ii r1]] false, .var [ii s, .sl z (ls.map encLb), ii g.e.a, ii g.e.b, ii g.e.c, ii g.e.d, .sl zh [.agg [ii h0f.a, ii h0f.b, ii h0f.c, ii h0f.d], .agg [ii h1f.a, ii h1f.b, ii h1f.c, ii h1f.d]], .sl zr [ii r0, ii r1]] false, .var [ii i] false, .var [ii ((T.take i).filter (finG s ls g)).length] false])
    rfl ?_ ?_ ?_
  · intro e he
    obtain ⟨l, _, rfl⟩ := List.mem_map.1 he
    rfl
  · intro p hp
    have hp7 : p = 33 := by simpa using hp
    subst hp7
    show (33 : Nat) < 47
    decide
  · intro t v hv
    obtain ⟨p, hp, rfl⟩ := getT_mem hv
    simp only [List.mem_cons, List.not_mem_nil, or_false] at hp
    rcases hp with rfl | rfl | rfl | rfl
    · refine .fn (fun c hc => by cases hc) fun c hc => ?_
      simp only [List.mem_cons, List.not_mem_nil, or_false] at hc
      subst hc
      exact (lt_of_closed _ hspc).mono (by omega)
    · exact .bp (show (4 : Nat) < 6 by decide)
    · exact .bp (show (3 : Nat) < 6 by decide)
    · exact .bp (show (2 : Nat) < 6 by decide)
  · rintro i st rfl
    refine ⟨rfl, fun x hx => ?_, sameLoops_of _ _ rfl⟩
    simp only [List.mem_cons, List.not_mem_nil, or_false] at hx
    rcases hx with rfl | rfl | rfl | rfl | rfl
    · exact fun c hc => (lt_of_closedL _ hcf c hc).mono (Nat.zero_le _)
    · exact fun c hc => (lt_of_closedL _ hcs c hc).mono (Nat.zero_le _)
    · exact fun c hc => (lt_of_closedL _ hKc c hc).mono (Nat.zero_le _)
    · exact fun c hc => by
        simp only [List.mem_cons, List.not_mem_nil, or_false] at hc
        subst hc
        exact .int
    · exact fun c hc => by
        simp only [List.mem_cons, List.not_mem_nil, or_false] at hc
        subst hc
        exact .int
  · rintro i e st he rfl
    obtain ⟨l, hl2, rfl⟩ : ∃ l, T[i]? = some l ∧ e = [pvL l] := by
      rw [List.getElem?_map, Option.map_eq_some_iff] at he
      obtain ⟨l, a, rfl⟩ := he
      exact ⟨l, a, rfl⟩
    have hlt := (List.getElem?_eq_some_iff.1 hl2).1
    have hpl : poseG ls l = true := hTp l (List.mem_of_getElem? hl2)
    obtain ⟨zn, hzn, hzk⟩ := pvL_z l
    have hd3' := decIs1_enc hzk
    have g0 := ends_get a0 hpl H.l0
    have g1 := ends_get a0 hpl H.l1
    have hel : (ends s ls l).length ≤ maxLen := by rw [ends_ln a0 hpl]; exact hs
    have hfg := finG_in H l
    generalize hp0 : (ends s ls l).getD r0.toNat (0, 0) = p0 at g0 hfg
    generalize hp1 : (ends s ls l).getD r1.toNat (0, 0) = p1 at g1 hfg
    rw [hzn]
    have hFl : ((T.take i).filter (finG s ls g)).length ≤ i := Nat.le_trans (List.length_filter_le _ _) (by simp; omega)
    have htk : (T.take (i + 1)).filter (finG s ls g) = (T.take i).filter (finG s ls g) ++ if finG s ls g l = true then [l] else [] := by
      rw [List.take_add_one, hl2, List.filter_append]
      simp [List.filter_cons]
    refine .next _ rfl fun own ho => ?_
    rw [htk]
    generalize (T.take i).filter (finG s ls g) = F at hFl
    have e4 : IntKind.i64.wrap ((i : Int) + 1) = ((i + 1 : Nat) : Int) := wrap_id (by omega) (by omega)
    have e5 : IntKind.i64.wrap ((F.length : Int) + 1) = ((F.length + 1 : Nat) : Int) := wrap_id (by omega) (by omega)
    unfold YRun
    generalize hX : Box.loop _ = X1
    cases hfi : finG s ls g l
    · rw [hfi] at hfg
      rw [if_neg (by simp), List.append_nil]
      repeat (first | (with_reducible (first | apply wA | apply wB | apply wC | apply wD | apply wE | apply wF | apply wG | apply wH | apply wI | apply wJ | apply wK | apply wL | apply wM | apply wN | apply wO | apply wP | apply wQ rfl | apply wR | apply wS | apply wT | apply wU)) | ((with_reducible (first | apply wV | apply wW | apply wX | (apply wY [] hTT cfWs_ok noM_ok mixed; (focus kernel_rfl)))); (focus (simp only [Tryz.f55, putPs, List.toList_toArray, go_sem]; with_reducible rfl))) | (with_reducible refine wZ hTT cfWs_ok noM_ok ?_) | (with_reducible refine wa ?_; refine And.intro ?_ ?_; (focus kernel_rfl)))
      refine ⟨rfl, own, by rw [← hX]; rfl, ?_⟩
      dsimp only
      generalize hX2 : Box.loop _ = X2
      repeat (first | (with_reducible (first | apply wA | apply wB | apply wC | apply wD | apply wE | apply wF | apply wG | apply wH | apply wI | apply wJ | apply wK | apply wL | apply wM | apply wN | apply wO | apply wP | apply wQ rfl | apply wR | apply wS | apply wT | apply wU)) | ((with_reducible (first | apply wV | apply wW | apply wX | (apply wY [] hTT cfWs_ok noM_ok mixed; (focus kernel_rfl)))); (focus (simp only [Tryz.f55, cfWs, c97, hd, hd3', a0, hpl, hm0, hm1, hzh, hzr, hel, hdf0, hdf1, g0, g1, hfg.symm, e4, go_sem]; with_reducible rfl))) | (with_reducible refine wZ hTT cfWs_ok noM_ok ?_) | (with_reducible refine wa ?_; refine And.intro ?_ ?_; (focus kernel_rfl)))
      exact ⟨rfl, [], by rw [← hX2]; simp⟩
    · rw [hfi] at hfg
      rw [if_pos rfl, List.length_append]
      have l1 : [l].length = 1 := rfl
      rw [l1]
      repeat (first | (with_reducible (first | apply wA | apply wB | apply wC | apply wD | apply wE | apply wF | apply wG | apply wH | apply wI | apply wJ | apply wK | apply wL | apply wM | apply wN | apply wO | apply wP | apply wQ rfl | apply wR | apply wS | apply wT | apply wU)) | ((with_reducible (first | apply wV | apply wW | apply wX | (apply wY [] hTT cfWs_ok noM_ok mixed; (focus kernel_rfl)))); (focus (simp only [Tryz.f55, putPs, List.toList_toArray, go_sem]; with_reducible rfl))) | (with_reducible refine wZ hTT cfWs_ok noM_ok ?_) | (with_reducible refine wa ?_; refine And.intro ?_ ?_; (focus kernel_rfl)))
      refine ⟨rfl, own, by rw [← hX]; rfl, ?_⟩
      dsimp only
      generalize hX2 : Box.loop _ = X2
      repeat (first | (with_reducible (first | apply wA | apply wB | apply wC | apply wD | apply wE | apply wF | apply wG | apply wH | apply wI | apply wJ | apply wK | apply wL | apply wM | apply wN | apply wO | apply wP | apply wQ rfl | apply wR | apply wS | apply wT | apply wU)) | ((with_reducible (first | apply wV | apply wW | apply wX | (apply wY [] hTT cfWs_ok noM_ok mixed; (focus kernel_rfl)))); (focus (simp only [Tryz.f55, cfWs, c97, hd, hd3', a0, hpl, hm0, hm1, hzh, hzr, hel, hdf0, hdf1, g0, g1, hfg.symm, e4, e5, go_sem]; with_reducible rfl))) | (with_reducible refine wZ hTT cfWs_ok noM_ok ?_) | (with_reducible refine wa ?_; refine And.intro ?_ ?_; (focus kernel_rfl)))
      exact ⟨rfl, [], by rw [← hX2]; simp⟩
  · rintro st rfl
    rw [List.length_map, List.take_length]
    unfold sureI
    generalize (T.filter (finG s ls g)).length = c
    generalize T.length = n
    by_cases h1 : c = n
    · subst h1
      rw [if_pos rfl]
      repeat (first | (with_reducible (first | apply wA | apply wB | apply wC | apply wD | apply wE | apply wF | apply wG | apply wH | apply wI | apply wJ | apply wK | apply wL | apply wM | apply wN | apply wO | apply wP | apply wQ rfl | apply wR | apply wS | apply wT | apply wU)) | ((with_reducible (first | apply wV | apply wW | apply wX | (apply wY [] hTT cfWs_ok noM_ok mixed; (focus kernel_rfl)))); (focus (simp only [Tryz.f55, beq_self_eq_true, go_sem]; with_reducible rfl))) | (with_reducible refine wZ hTT cfWs_ok noM_ok ?_) | (with_reducible refine wa ?_; refine And.intro ?_ ?_; (focus kernel_rfl)))
      exact ⟨rfl, rfl, _, rfl, leave_closed rfl⟩
    · rw [if_neg h1]
      have h1' : ((c : Int) == (n : Int)) = false := by simp; omega
      by_cases h2 : c = 0
      · rw [if_pos h2]
        have h2' : ((c : Int) == 0) = true := by simp [h2]
        repeat (first | (with_reducible (first | apply wA | apply wB | apply wC | apply wD | apply wE | apply wF | apply wG | apply wH | apply wI | apply wJ | apply wK | apply wL | apply wM | apply wN | apply wO | apply wP | apply wQ rfl | apply wR | apply wS | apply wT | apply wU)) | ((with_reducible (first | apply wV | apply wW | apply wX | (apply wY [] hTT cfWs_ok noM_ok mixed; (focus kernel_rfl)))); (focus (simp only [Tryz.f55, h1', h2', go_sem]; with_reducible rfl))) | (with_reducible refine wZ hTT cfWs_ok noM_ok ?_) | (with_reducible refine wa ?_; refine And.intro ?_ ?_; (focus kernel_rfl)))
        exact ⟨rfl, rfl, _, rfl, leave_closed rfl⟩
      · rw [if_neg h2]
        have h2' : ((c : Int) == 0) = false := by simp [h2]
        repeat (first | (with_reducible (first | apply wA | apply wB | apply wC | apply wD | apply wE | apply wF | apply wG | apply wH | apply wI | apply wJ | apply wK | apply wL | apply wM | apply wN | apply wO | apply wP | apply wQ rfl | apply wR | apply wS | apply wT | apply wU)) | ((with_reducible (first | apply wV | apply wW | apply wX | (apply wY [] hTT cfWs_ok noM_ok mixed; (focus kernel_rfl)))); (focus (simp only [Tryz.f55, h1', h2', go_sem]; with_reducible rfl))) | (with_reducible refine wZ hTT cfWs_ok noM_ok ?_) | (with_reducible refine wa ?_; refine And.intro ?_ ?_; (focus kernel_rfl)))
        exact ⟨rfl, rfl, _, rfl, leave_closed rfl⟩
end Go.Pv
namespace Go.Pv
open Go Go.RowKit Go.Proofs
set_option maxRecDepth 10000
set_option maxHeartbeats 4000000
def c55 : List PV → List Box → Option (PRes × List Box)
  | [v, w, p], sg => match decFig v, decStg w, decIs1 p with
    | some (s, ls), some g, some ps => some (.ret (sureR s ls g ps), sg)
    | _, _, _ => none
  | _, _ => none
theorem c55_ok : ConOk Tryz.prog 55 c55 := ConOk.of0 (ent Tryz.func55 rfl) fun args sg r sg' h => by
  unfold c55 at h
  split at h <;> try (cases h; done)
  split at h <;> cases h
  rename_i h1 h2 h3
  obtain ⟨z, rfl, hz⟩ := decFig_inv h1
  obtain ⟨zh, zr, rfl, hh, hr⟩ := decStg_inv h2
  obtain ⟨zp, rfl, hp⟩ := decIs1_inv h3
  exact ⟨_, rfl, rfl, by rw [ltBL_cons, ltB_fig, ltBL_cons, ltB_stg, ltBL_cons, ltB_isl]; rfl, Sure_55 _ _ _ _ _ _ _ _ (zOk_n' hz) hh hr (zOk_n' hp)⟩
end Go.Pv
