/- Contracts: the first truth of a pose that is not fine, the program's and the reference's. -/
import Derived.Test.YtmnocohggpmjcaaGreatDoorQuTru
import Derived.Test.YtmnocohggpmjcaaGreatDoorQtA
import Derived.Test.YtmnocohggpmjcaaGreatDoorQgEnds
set_option linter.all false
namespace Go.Pv
open Go Go.RowKit Go.Proofs
set_option maxRecDepth 10000
set_option maxHeartbeats 4000000
theorem tru_in {s : Int} {ls : List Lb} {ps : List Int} (hf : figB s ls = true) (hp : poseG ls ps = true) : ∀ x ∈ truS ls ps, -1000 ≤ x.1 ∧ x.1 ≤ 1000 ∧ -1000 ≤ x.2 ∧ x.2 ≤ 1000 := fun x hx => by
  have := tru_bd hf hp x hx; omega
theorem spP_closed (sp : List (Int × Int)) : (spP .a sp).closed = true := by
  show closedL [.sl .a (sp.map spE)] = true
  simp [closedL, PV.closed, closedL_sp]
end Go.Pv
namespace Go.Pv
open Go Go.RowKit Go.Proofs
set_option maxRecDepth 10000
set_option maxHeartbeats 4000000
def cfWs : CallF := cfAdd (cfAdd (cfAdd (cfAdd (cfAdd cf0 85 c85) 96 c96) 86 c86) 109 c109) 97 c97
theorem cfWs_ok : CallFOk Tryz.prog cfWs := cfAdd_ok (cfAdd_ok (cfAdd_ok (cfAdd_ok (cfAdd_ok cf0_ok c85_ok) c96_ok) c86_ok) c109_ok) c97_ok
theorem Sure_55 (s : Int) (z zh zr zp : Z) (ls : List Lb) (g : Stg) (ps : List Int) (hzo : zOk z (ls.map encLb) = true) (hh : zOk zh (g.hs.map encFld) = true) (hr : zOk zr (g.rs.map ii) = true) (hzp : zOk zp (ps.map ii) = true) :
    CallOk Tryz.prog 55 [.agg [ii s, .sl z (ls.map encLb)], encStg zh zr g, .sl zp (ps.map ii)] [] (.ret (sureR s ls g ps)) [] := by
  refine CallOk.ofF hTT Tryz.func55 rfl rfl ?_
  have hd := decFig_enc s z ls hzo
  have hd2 := decStg_enc hh hr
  have hd3 := decIs1_enc hzp
  unfold sureR
  cases a0 : figB s ls
  · unfold encStg at hd2 ⊢
    repeat (first | (with_reducible (first | apply wA | apply wB | apply wC | apply wD | apply wE | apply wF | apply wG | apply wH | apply wI | apply wJ | apply wK | apply wL | apply wM | apply wN | apply wO | apply wP | apply wQ rfl | apply wR | apply wS | apply wT | apply wU)) | ((with_reducible (first | apply wV | apply wW | apply wX | (apply wY [] hTT cfWs_ok noM_ok mixed; (focus kernel_rfl)))); (focus (simp only [Tryz.f55, cfWs, c85, hd, a0, notYield, go_sem]; with_reducible rfl))) | (with_reducible refine wZ hTT cfWs_ok noM_ok ?_) | (with_reducible refine wa ?_; refine And.intro ?_ ?_; (focus kernel_rfl)))
    exact ⟨rfl, rfl, _, rfl, leave_closed rfl⟩
  have hl := fig_len a0
  have hs : ls.length ≤ maxLen := by unfold maxLen; omega
  have hs2 : ls.length ≤ 1000 := by omega
  cases a1 : stgG ls g
  · unfold encStg at hd2 ⊢
    repeat (first | (with_reducible (first | apply wA | apply wB | apply wC | apply wD | apply wE | apply wF | apply wG | apply wH | apply wI | apply wJ | apply wK | apply wL | apply wM | apply wN | apply wO | apply wP | apply wQ rfl | apply wR | apply wS | apply wT | apply wU)) | ((with_reducible (first | apply wV | apply wW | apply wX | (apply wY [] hTT cfWs_ok noM_ok mixed; (focus kernel_rfl)))); (focus (simp only [Tryz.f55, cfWs, c85, c96, hd, hd2, a0, a1, hs, notYield, go_sem]; with_reducible rfl))) | (with_reducible refine wZ hTT cfWs_ok noM_ok ?_) | (with_reducible refine wa ?_; refine And.intro ?_ ?_; (focus kernel_rfl)))
    exact ⟨rfl, rfl, _, rfl, leave_closed rfl⟩
  cases a2 : poseG ls ps
  · unfold encStg at hd2 ⊢
    repeat (first | (with_reducible (first | apply wA | apply wB | apply wC | apply wD | apply wE | apply wF | apply wG | apply wH | apply wI | apply wJ | apply wK | apply wL | apply wM | apply wN | apply wO | apply wP | apply wQ rfl | apply wR | apply wS | apply wT | apply wU)) | ((with_reducible (first | apply wV | apply wW | apply wX | (apply wY [] hTT cfWs_ok noM_ok mixed; (focus kernel_rfl)))); (focus (simp only [Tryz.f55, cfWs, c85, c96, c86, hd, hd2, hd3, a0, a1, a2, hs, hs2, notYield, go_sem]; with_reducible rfl))) | (with_reducible refine wZ hTT cfWs_ok noM_ok ?_) | (with_reducible refine wa ?_; refine And.intro ?_ ?_; (focus kernel_rfl)))
    exact ⟨rfl, rfl, _, rfl, leave_closed rfl⟩
  rw [if_pos ⟨rfl, rfl, rfl⟩]
  obtain ⟨h0f, h1f, r0, r1, H⟩ := stgIn (s := s) a1
  have hzh : zh ≠ .n := fun e => by subst e; rw [H.hs] at hh; cases hh
  have hzr : zr ≠ .n := fun e => by subst e; rw [H.rs] at hr; cases hr
  have hm0 := H.l0.1
  have hm1 := H.l1.1
  have hdf0 : decFld (.agg [ii h0f.a, ii h0f.b, ii h0f.c, ii h0f.d]) = some h0f := rfl
  have hdf1 : decFld (.agg [ii h1f.a, ii h1f.b, ii h1f.c, ii h1f.d]) = some h1f := rfl
  have hKc := closed_stgC s z zh zr ls g
  unfold stgC at hKc
  unfold encStg at hd2 ⊢
  rw [H.hs, H.rs] at hd2 hKc ⊢
  simp only [List.map_cons, List.map_nil] at hd2 hKc ⊢
  unfold encFld at hd2 hKc ⊢
  have hTp : ∀ l ∈ truthsG ls ps, poseG ls l = true := fun l h => truth_pose a2 h
  have hTl := truths_len a0 a2
  have hit := lists_166 .a (truS ls ps) (by simp) (tru_in a0 a2) (by rw [tru_len a2]; omega)
  have hspc := spP_closed (truS ls ps)
  repeat (first | (with_reducible (first | apply wA | ((fail_if_success (refine RunQ.seq (x := .region 6 _ _) ?_)); (apply wB)) | apply wC | apply wD | apply wE | apply wF | apply wG | apply wH | apply wI | apply wJ | apply wK | apply wL | apply wM | apply wN | apply wO | apply wP | apply wQ rfl | apply wR | apply wS | apply wT | apply wU)) | ((with_reducible (first | apply wV | apply wW | apply wX | (apply wY [] hTT cfWs_ok noM_ok mixed; (focus kernel_rfl)))); (focus (simp only [Tryz.f55, cfWs, c85, c96, c86, c109, hd, hd2, hd3, a0, a1, a2, hs, hs2, notYield, go_sem]; with_reducible rfl))) | ((fail_if_success (with_reducible show RunQ _ (.region 6 _ _) _ _)); (with_reducible refine wZ hTT cfWs_ok noM_ok ?_)) | (with_reducible refine wa ?_; refine And.intro ?_ ?_; (focus kernel_rfl)))
  refine RunQ.keep [32, 10, 9, 8] (by simp only [go_sem]; rfl) ?_
  have hTe : exts (truS ls ps) [] = truthsG ls ps := rfl
  rw [hTe] at hit
  generalize truthsG ls ps = T at *
  have hcf : closedL [ii s, .sl z (ls.map encLb)] = true := by simp [closedL, PV.closed, closedL_lbs]
  have hcs : closedL [ii g.e.a, ii g.e.b, ii g.e.c, ii g.e.d, .sl zh [.agg [ii h0f.a, ii h0f.b, ii h0f.c, ii h0f.d], .agg [ii h1f.a, ii h1f.b, ii h1f.c, ii h1f.d]], .sl zr [ii r0, ii r1]] = true := by simp [closedL, PV.closed]
  refine RunQ.range (L := T.map fun l => [pvL l]) (first := []) (cap := [spP .a (truS ls ps)]) rfl (ent Tryz.func166 rfl) hit ?_ ?_ ?_
    (fun i st => st = [.var [ii s, .sl z (ls.map encLb)] false, .var [ii g.e.a, ii g.e.b, ii g.e.c, ii g.e.d, .sl zh [.agg [ii h0f.a, ii h0f.b, ii h0f.c, ii h0f.d], .agg [ii h1f.a, ii h1f.b, ii h1f.c, ii h1f.d]], .sl zr [ii r0, ii r1]] false, .var [ii s, .sl z (ls.map encLb), ii g.e.a, ii g.e.b, ii g.e.c, ii g.e.d, .sl zh [.agg [ii h0f.a, ii h0f.b, ii h0f.c, ii h0f.d], .agg [ii h1f.a, ii h1f.b, ii h1f.c, ii h1f.d]], .sl zr [ii r0, ii r1]] false, .var [ii i] false, .var [ii ((T.take i).filter (finG s ls g)).length] false])
    rfl ?_ ?_ ?_
  · intro e he
    obtain ⟨l, _, rfl⟩ := List.mem_map.1 he
    rfl
  · intro p hp
    have hp7 : p = 33 := by simpa using hp
    subst hp7
    show (33 : Nat) < 47
    decide
  · intro t v hv
    obtain ⟨p, hp, rfl⟩ := getT_mem hv
    simp only [List.mem_cons, List.not_mem_nil, or_false] at hp
    rcases hp with rfl | rfl | rfl | rfl
    · refine .fn (fun c hc => by cases hc) fun c hc => ?_
      simp only [List.mem_cons, List.not_mem_nil, or_false] at hc
      subst hc
      exact (lt_of_closed _ hspc).mono (by omega)
    · exact .bp (show (4 : Nat) < 6 by decide)
    · exact .bp (show (3 : Nat) < 6 by decide)
    · exact .bp (show (2 : Nat) < 6 by decide)
  · rintro i st rfl
    refine ⟨rfl, fun x hx => ?_, sameLoops_of _ _ rfl⟩
    simp only [List.mem_cons, List.not_mem_nil, or_false] at hx
    rcases hx with rfl | rfl | rfl | rfl | rfl
    · exact fun c hc => (lt_of_closedL _ hcf c hc).mono (Nat.zero_le _)
    · exact fun c hc => (lt_of_closedL _ hcs c hc).mono (Nat.zero_le _)
    · exact fun c hc => (lt_of_closedL _ hKc c hc).mono (Nat.zero_le _)
    · exact fun c hc => by
        simp only [List.mem_cons, List.not_mem_nil, or_false] at hc
        subst hc
        exact .int
    · exact fun c hc => by
        simp only [List.mem_cons, List.not_mem_nil, or_false] at hc
        subst hc
        exact .int
  · rintro i e st he rfl
    obtain ⟨l, hl2, rfl⟩ : ∃ l, T[i]? = some l ∧ e = [pvL l] := by
      rw [List.getElem?_map, Option.map_eq_some_iff] at he
      obtain ⟨l, a, rfl⟩ := he
      exact ⟨l, a, rfl⟩
    have hlt := (List.getElem?_eq_some_iff.1 hl2).1
    have hpl : poseG ls l = true := hTp l (List.mem_of_getElem? hl2)
    obtain ⟨zn, hzn, hzk⟩ := pvL_z l
    have hd3' := decIs1_enc hzk
    have g0 := ends_get a0 hpl H.l0
    have g1 := ends_get a0 hpl H.l1
    have hel : (ends s ls l).length ≤ maxLen := by rw [ends_ln a0 hpl]; exact hs
    have hfg := finG_in H l
    generalize hp0 : (ends s ls l).getD r0.toNat (0, 0) = p0 at g0 hfg
    generalize hp1 : (ends s ls l).getD r1.toNat (0, 0) = p1 at g1 hfg
    rw [hzn]
    have hFl : ((T.take i).filter (finG s ls g)).length ≤ i := Nat.le_trans (List.length_filter_le _ _) (by simp; omega)
    have htk : (T.take (i + 1)).filter (finG s ls g) = (T.take i).filter (finG s ls g) ++ if finG s ls g l = true then [l] else [] := by
      rw [List.take_add_one, hl2, List.filter_append]
      simp [List.filter_cons]
    refine .next _ rfl fun own ho => ?_
    rw [htk]
    generalize (T.take i).filter (finG s ls g) = F at hFl
    have e4 : IntKind.i64.wrap ((i : Int) + 1) = ((i + 1 : Nat) : Int) := wrap_id (by omega) (by omega)
    have e5 : IntKind.i64.wrap ((F.length : Int) + 1) = ((F.length + 1 : Nat) : Int) := wrap_id (by omega) (by omega)
    unfold YRun
    generalize hX : Box.loop _ = X1
    cases hfi : finG s ls g l
    · rw [hfi] at hfg
      rw [if_neg (by simp), List.append_nil]
      repeat (first | (with_reducible (first | apply wA | apply wB | apply wC | apply wD | apply wE | apply wF | apply wG | apply wH | apply wI | apply wJ | apply wK | apply wL | apply wM | apply wN | apply wO | apply wP | apply wQ rfl | apply wR | apply wS | apply wT | apply wU)) | ((with_reducible (first | apply wV | apply wW | apply wX | (apply wY [] hTT cfWs_ok noM_ok mixed; (focus kernel_rfl)))); (focus (simp only [Tryz.f55, putPs, List.toList_toArray, go_sem]; with_reducible rfl))) | (with_reducible refine wZ hTT cfWs_ok noM_ok ?_) | (with_reducible refine wa ?_; refine And.intro ?_ ?_; (focus kernel_rfl)))
      refine ⟨rfl, own, by rw [← hX]; rfl, ?_⟩
      dsimp only
      generalize hX2 : Box.loop _ = X2
      repeat (first | (with_reducible (first | apply wA | apply wB | apply wC | apply wD | apply wE | apply wF | apply wG | apply wH | apply wI | apply wJ | apply wK | apply wL | apply wM | apply wN | apply wO | apply wP | apply wQ rfl | apply wR | apply wS | apply wT | apply wU)) | ((with_reducible (first | apply wV | apply wW | apply wX | (apply wY [] hTT cfWs_ok noM_ok mixed; (focus kernel_rfl)))); (focus (simp only [Tryz.f55, cfWs, c97, hd, hd3', a0, hpl, hm0, hm1, hzh, hzr, hel, hdf0, hdf1, g0, g1, hfg.symm, e4, go_sem]; with_reducible rfl))) | (with_reducible refine wZ hTT cfWs_ok noM_ok ?_) | (with_reducible refine wa ?_; refine And.intro ?_ ?_; (focus kernel_rfl)))
      exact ⟨rfl, [], by rw [← hX2]; simp⟩
    · rw [hfi] at hfg
      rw [if_pos rfl, List.length_append]
      have l1 : [l].length = 1 := rfl
      rw [l1]
      repeat (first | (with_reducible (first | apply wA | apply wB | apply wC | apply wD | apply wE | apply wF | apply wG | apply wH | apply wI | apply wJ | apply wK | apply wL | apply wM | apply wN | apply wO | apply wP | apply wQ rfl | apply wR | apply wS | apply wT | apply wU)) | ((with_reducible (first | apply wV | apply wW | apply wX | (apply wY [] hTT cfWs_ok noM_ok mixed; (focus kernel_rfl)))); (focus (simp only [Tryz.f55, putPs, List.toList_toArray, go_sem]; with_reducible rfl))) | (with_reducible refine wZ hTT cfWs_ok noM_ok ?_) | (with_reducible refine wa ?_; refine And.intro ?_ ?_; (focus kernel_rfl)))
      refine ⟨rfl, own, by rw [← hX]; rfl, ?_⟩
      dsimp only
      generalize hX2 : Box.loop _ = X2
      repeat (first | (with_reducible (first | apply wA | apply wB | apply wC | apply wD | apply wE | apply wF | apply wG | apply wH | apply wI | apply wJ | apply wK | apply wL | apply wM | apply wN | apply wO | apply wP | apply wQ rfl | apply wR | apply wS | apply wT | apply wU)) | ((with_reducible (first | apply wV | apply wW | apply wX | (apply wY [] hTT cfWs_ok noM_ok mixed; (focus kernel_rfl)))); (focus (simp only [Tryz.f55, cfWs, c97, hd, hd3', a0, hpl, hm0, hm1, hzh, hzr, hel, hdf0, hdf1, g0, g1, hfg.symm, e4, e5, go_sem]; with_reducible rfl))) | (with_reducible refine wZ hTT cfWs_ok noM_ok ?_) | (with_reducible refine wa ?_; refine And.intro ?_ ?_; (focus kernel_rfl)))
      exact ⟨rfl, [], by rw [← hX2]; simp⟩
  · rintro st rfl
    rw [List.length_map, List.take_length]
    unfold sureI
    generalize (T.filter (finG s ls g)).length = c
    generalize T.length = n
    by_cases h1 : c = n
    · subst h1
      rw [if_pos rfl]
      repeat (first | (with_reducible (first | apply wA | apply wB | apply wC | apply wD | apply wE | apply wF | apply wG | apply wH | apply wI | apply wJ | apply wK | apply wL | apply wM | apply wN | apply wO | apply wP | apply wQ rfl | apply wR | apply wS | apply wT | apply wU)) | ((with_reducible (first | apply wV | apply wW | apply wX | (apply wY [] hTT cfWs_ok noM_ok mixed; (focus kernel_rfl)))); (focus (simp only [Tryz.f55, beq_self_eq_true, go_sem]; with_reducible rfl))) | (with_reducible refine wZ hTT cfWs_ok noM_ok ?_) | (with_reducible refine wa ?_; refine And.intro ?_ ?_; (focus kernel_rfl)))
      exact ⟨rfl, rfl, _, rfl, leave_closed rfl⟩
    · rw [if_neg h1]
      have h1' : ((c : Int) == (n : Int)) = false := by simp; omega
      by_cases h2 : c = 0
      · rw [if_pos h2]
        have h2' : ((c : Int) == 0) = true := by simp [h2]
        repeat (first | (with_reducible (first | apply wA | apply wB | apply wC | apply wD | apply wE | apply wF | apply wG | apply wH | apply wI | apply wJ | apply wK | apply wL | apply wM | apply wN | apply wO | apply wP | apply wQ rfl | apply wR | apply wS | apply wT | apply wU)) | ((with_reducible (first | apply wV | apply wW | apply wX | (apply wY [] hTT cfWs_ok noM_ok mixed; (focus kernel_rfl)))); (focus (simp only [Tryz.f55, h1', h2', go_sem]; with_reducible rfl))) | (with_reducible refine wZ hTT cfWs_ok noM_ok ?_) | (with_reducible refine wa ?_; refine And.intro ?_ ?_; (focus kernel_rfl)))
        exact ⟨rfl, rfl, _, rfl, leave_closed rfl⟩
      · rw [if_neg h2]
        have h2' : ((c : Int) == 0) = false := by simp [h2]
        repeat (first | (with_reducible (first | apply wA | apply wB | apply wC | apply wD | apply wE | apply wF | apply wG | apply wH | apply wI | apply wJ | apply wK | apply wL | apply wM | apply wN | apply wO | apply wP | apply wQ rfl | apply wR | apply wS | apply wT | apply wU)) | ((with_reducible (first | apply wV | apply wW | apply wX | (apply wY [] hTT cfWs_ok noM_ok mixed; (focus kernel_rfl)))); (focus (simp only [Tryz.f55, h1', h2', go_sem]; with_reducible rfl))) | (with_reducible refine wZ hTT cfWs_ok noM_ok ?_) | (with_reducible refine wa ?_; refine And.intro ?_ ?_; (focus kernel_rfl)))
        exact ⟨rfl, rfl, _, rfl, leave_closed rfl⟩
end Go.Pv
namespace Go.Pv
open Go Go.RowKit Go.Proofs
set_option maxRecDepth 10000
set_option maxHeartbeats 4000000
end Go.Pv
namespace Go.Pv
open Go Go.RowKit Go.Proofs
set_option maxRecDepth 10000
set_option maxHeartbeats 4000000
end Go.Pv
namespace Go.Pv
open Go Go.RowKit Go.Proofs
set_option maxRecDepth 10000
set_option maxHeartbeats 4000000
def c55 : List PV → List Box → Option (PRes × List Box)
  | [v, w, p], sg => match decFig v, decStg w, decIs1 p with
    | some (s, ls), some g, some ps => some (.ret (sureR s ls g ps), sg)
    | _, _, _ => none
  | _, _ => none
theorem c55_ok : ConOk Tryz.prog 55 c55 := ConOk.of0 (ent Tryz.func55 rfl) fun args sg r sg' h => by
  unfold c55 at h
  split at h <;> try (cases h; done)
  split at h <;> cases h
  rename_i h1 h2 h3
  obtain ⟨z, rfl, hz⟩ := decFig_inv h1
  obtain ⟨zh, zr, rfl, hh, hr⟩ := decStg_inv h2
  obtain ⟨zp, rfl, hp⟩ := decIs1_inv h3
  exact ⟨_, rfl, rfl, by rw [ltBL_cons, ltB_fig, ltBL_cons, ltB_stg, ltBL_cons, ltB_isl]; rfl, Sure_55 _ _ _ _ _ _ _ _ (zOk_n' hz) hh hr (zOk_n' hp)⟩
end Go.Pv
