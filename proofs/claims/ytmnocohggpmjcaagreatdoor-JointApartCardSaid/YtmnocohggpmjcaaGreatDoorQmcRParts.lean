/- Contracts: how many parts there are, the reference's. -/
import Derived.Test.YtmnocohggpmjcaaGreatDoorQmcPart
import Derived.Test.YtmnocohggpmjcaaGreatDoorQyFar
set_option linter.all false
namespace Go.Pv
open Go Go.RowKit Go.Proofs
set_option maxRecDepth 200000
set_option maxHeartbeats 8000000
/-- Which poses were met, by their places. -/
def metL (P K : List (List Int)) : List PV := P.map fun p => PV.bool (K.contains p)
theorem metLc (P K : List (List Int)) : closedL (metL P K) = true := closedL_map (fun _ => rfl) P
theorem metL_len (P K : List (List Int)) : (metL P K).length = P.length := List.length_map ..
theorem metL_nil (P : List (List Int)) : metL P [] = List.replicate P.length (PV.bool false) := by
  unfold metL
  rw [← List.map_const']
  rfl
theorem metL_get {P K : List (List Int)} {i : Nat} {q : List Int} (h : P[i]? = some q) : (metL P K)[i]? = some (.bool (K.contains q)) := by
  unfold metL; rw [List.getElem?_map, h]; rfl
theorem metL_set {P K : List (List Int)} {i : Nat} {q : List Int} (hd : P.Nodup) (h : P[i]? = some q) : (metL P K).set i (.bool true) = metL P (K ++ [q]) := by
  refine List.ext_getElem? fun j => ?_
  rw [List.getElem?_set]
  obtain ⟨h1, h2⟩ := List.getElem?_eq_some_iff.1 h
  split
  · rename_i hij
    subst hij
    rw [if_pos (by rw [metL_len]; exact h1), metL_get h]
    simp
  · rename_i hij
    unfold metL
    rw [List.getElem?_map, List.getElem?_map]
    cases hj : P[j]? with
    | none => rfl
    | some p =>
      obtain ⟨h3, h4⟩ := List.getElem?_eq_some_iff.1 hj
      have hne : p ≠ q := fun e => by
        have hp := List.pairwise_iff_getElem.1 hd
        rcases Nat.lt_trichotomy i j with h5 | h5 | h5
        · exact hp i j h1 h3 h5 (by rw [h2, h4, e])
        · exact hij h5
        · exact hp j i h3 h1 h5 (by rw [h2, h4, e])
      show some (PV.bool (K.contains p)) = some (PV.bool ((K ++ [q]).contains p))
      congr 2
      rw [Bool.eq_iff_iff]
      simp [hne]
def kyQ (Q : Dst) : List (List Int) := Q.map Prod.fst
theorem kyQ_snoc (Q : Dst) (x : List Int × Nat) : kyQ (Q ++ [x]) = kyQ Q ++ [x.1] := by unfold kyQ; simp
theorem kyQ_has {Q : Dst} {q : List Int} : (kyQ Q).contains q = hasK Q q := by
  rw [Bool.eq_iff_iff, hasK_keys, List.contains_iff_mem]
  rfl
theorem away_sub {s : Int} {ls : List Lb} {g : Stg} {b : List Int} {i : Nat} (hi : i ≤ 60000) {x : List Int × Nat} (hx : x ∈ awayQ s ls g b i) : x ∈ awayG s ls g b := by
  unfold awayG
  generalize 60000 = n at hi ⊢
  obtain ⟨r, hr⟩ := bfs_pre (nb := nbG s ls g) (Q0 := [(b, 0)]) hi
  have e : awayQ s ls g b n = awayQ s ls g b i ++ r := hr
  rw [e]
  exact List.mem_append_left _ hx
def cfMl : CallF := cfAdd (cfAdd (cfAdd (cfAdd (cfAdd (cfAdd cf0 92 c92) 104 c104) 103 c103) 105 c145) 27 c86) 44 c44
theorem cfMl_ok : CallFOk Tryz.prog cfMl := cfAdd_ok (cfAdd_ok (cfAdd_ok (cfAdd_ok (cfAdd_ok (cfAdd_ok cf0_ok c92_ok) c104_ok) c103_ok) c105_ok) c27_ok) c44_ok
theorem RParts_51 (s : Int) (z zh zr : Z) (ls : List Lb) (g : Stg) (hzo : zOk z (ls.map encLb) = true) (hh : zOk zh (g.hs.map encFld) = true) (hr : zOk zr (g.rs.map ii) = true) (hf : figB s ls = true) (hg : stgG ls g = true) :
    CallOk Tryz.prog 51 [.agg [ii s, .sl z (ls.map encLb)], encStg zh zr g] [] (.ret (ii (partsG s ls g : Nat))) [] := by
  refine CallOk.ofF hTT Tryz.func51 rfl rfl ?_
  have hd := decFig_enc s z ls hzo
  have hd2 := decStg_enc hh hr
  have hl := fig_len hf
  have hs2 : ls.length ≤ 1000 := by omega
  have hne : ls ≠ [] := fun e => by rw [e] at hl; simp at hl
  unfold encStg at hd2 ⊢
  unfold partsG
  have hpl := poses_len hf
  have hplm : (posesG ls).length ≤ maxLen := by unfold maxLen; omega
  have hplb : (posesG ls).length ≤ 281474976710656 := by omega
  have hPnd := poses_nodup ls
  repeat (first | (with_reducible (first | apply wA | ((fail_if_success (refine RunQ.seq (x := .region 2 _ _) ?_)); (apply wB)) | apply wC | apply wD | apply wE | apply wF | apply wG | apply wH | apply wI | apply wJ | apply wK | apply wL | apply wM | apply wN | apply wO | apply wP | apply wQ rfl | apply wR | apply wS | apply wT | apply wU)) | ((with_reducible (first | apply wV | apply wW | apply wX | (apply wY [] hTT cfMl_ok noM_ok mixed; (focus kernel_rfl)))); (focus (simp only [Tryz.f51, cfMl, c92, hd, hf, go_sem]; with_reducible rfl))) | ((fail_if_success (with_reducible show RunQ _ (.region 2 _ _) _ _)); (with_reducible refine wZ hTT cfMl_ok noM_ok ?_)) | (with_reducible refine wa ?_; refine And.intro ?_ ?_; (focus kernel_rfl)))
  refine RunQ.keep [5, 4, 3, 2] (by simp only [go_sem]; rfl) ?_
  repeat (first | (with_reducible (first | apply wA | ((fail_if_success (refine RunQ.seq (x := .region 3 _ _) ?_)); (apply wB)) | apply wC | apply wD | apply wE | apply wF | apply wG | apply wH | apply wI | apply wJ | apply wK | apply wL | apply wM | apply wN | apply wO | apply wP | apply wQ rfl | apply wR | apply wS | apply wT | apply wU)) | ((with_reducible (first | apply wV | apply wW | apply wX | (apply wY [] hTT cfMl_ok noM_ok mixed; (focus kernel_rfl)))); (focus (simp only [Tryz.f51, cfMl, c104, hd, hne, hs2, go_sem]; with_reducible rfl))) | ((fail_if_success (with_reducible show RunQ _ (.region 3 _ _) _ _)); (with_reducible refine wZ hTT cfMl_ok noM_ok ?_)) | (with_reducible refine wa ?_; refine And.intro ?_ ?_; (focus kernel_rfl)))
  refine RunQ.keep [6, 5, 3, 2] (by simp only [go_sem]; rfl) ?_
  repeat (first | (with_reducible (first | apply wA | ((fail_if_success (refine RunQ.seq (x := .region 4 _ _) ?_)); (apply wB)) | apply wC | apply wD | apply wE | apply wF | apply wG | apply wH | apply wI | apply wJ | apply wK | apply wL | apply wM | apply wN | apply wO | apply wP | apply wQ rfl | apply wR | apply wS | apply wT | apply wU)) | ((with_reducible (first | apply wV | apply wW | apply wX | (apply wY [] hTT cfMl_ok noM_ok mixed; (focus kernel_rfl)))); (focus (simp only [Tryz.f51, makeSliceC, hplm, hplb, List.length_map, go_sem]; with_reducible rfl))) | ((fail_if_success (with_reducible show RunQ _ (.region 4 _ _) _ _)); (with_reducible refine wZ hTT cfMl_ok noM_ok ?_)) | (with_reducible refine wa ?_; refine And.intro ?_ ?_; (focus kernel_rfl)))
  refine RunQ.keep [7, 6, 5, 3, 2] (by simp only [go_sem]; rfl) ?_
  rw [← metL_nil]
  repeat (first | (with_reducible (first | apply wA | apply wB | apply wC | apply wD | apply wE | apply wF | apply wG | apply wH | apply wI | apply wJ | apply wK | apply wL | apply wM | apply wN | apply wO | apply wP | apply wQ rfl | apply wR | apply wS | apply wT | apply wU)) | ((with_reducible (first | apply wV | apply wW | apply wX | (apply wY [] hTT cfMl_ok noM_ok mixed; (focus kernel_rfl)))); (focus (simp only [Tryz.f51, go_sem]; with_reducible rfl))) | (with_reducible refine wZ hTT cfMl_ok noM_ok ?_) | (with_reducible refine wa ?_; refine And.intro ?_ ?_; (focus kernel_rfl)))
  refine RunQ.keep [9, 8, 7, 6, 5, 3, 2] (by simp only [go_sem]; rfl) ?_
  have lI : ∀ m (l : List Int), ltBL m (l.map ii) = true := fun m l => ltBL_of_closed m _ (closedL_is l)
  have lM : ∀ m (Q : Dst), ltBL m (metE Q) = true := fun m Q => ltBL_of_closed m _ (metc Q)
  have lL : ∀ m (P K : List (List Int)), ltBL m (metL P K) = true := fun m P K => ltBL_of_closed m _ (metLc P K)
  have lTt : ∀ m, ltBL m ((candG ls.length).map encT) = true := fun m => lT m _
  have hme : ∀ Q : Dst, (metE Q).length = Q.length := fun Q => by unfold metE; rw [List.length_map]
  have hfG : finesG s ls g = (posesG ls).filter (finG s ls g) := rfl
  rw [hfG]
  have hPm : ∀ l ∈ posesG ls, poseG ls l = true := fun l h => mem_poses.1 h
  have hPi : ∀ {l}, poseG ls l = true → (posesG ls)[idxG ls l]? = some l := fun {l} h => poses_idx h
  generalize hPP : posesG ls = P at *
  refine RunQ.loop (fun i s' => s' = ⟨[(9, ii i), (8, ii ((prtG s ls g ((P.take i).filter (finG s ls g))).rs.length : Nat)), (7, .ms 2 P.length), (6, .sl .a ((candG ls.length).map encT)), (5, .sl .a (P.map pvL)), (3, .bp 1 0), (2, .bp 0 0)], 100, [.var [ii s, .sl z (ls.map encLb)] false, .var [ii g.e.a, ii g.e.b, ii g.e.c, ii g.e.d, .sl zh (g.hs.map encFld), .sl zr (g.rs.map ii)] false, .row false 4 1 (metL P (prtG s ls g ((P.take i).filter (finG s ls g))).ks) false]⟩) P.length rfl ?_
  rintro i _ hi rfl
  have hmln := fun K => metL_len P K
  by_cases hlt : i < P.length
  · obtain ⟨x, hx⟩ : ∃ x, P[i]? = some x := ⟨_, List.getElem?_eq_getElem hlt⟩
    have hxp := hPm x (List.mem_of_getElem? hx)
    have hxl := (pose_at hxp).1
    have hpv : pvL x = pvA x := by
      unfold pvL
      cases x with
      | nil => simp at hxl; omega
      | cons a r => rfl
    have hx' : (P.map pvL)[i]? = some (.sl .a (x.map ii)) := by rw [List.getElem?_map, hx, Option.map_some, hpv]
    have hdx : decIs1 (.sl .a (x.map ii)) = some x := decIs1_enc (by cases x <;> rfl)
    have hlt' : (i : Int) < P.length := by omega
    have e4 : IntKind.i64.wrap ((i : Int) + 1) = ((i + 1 : Nat) : Int) := wrap_id (by omega) (by omega)
    have htk : (P.take (i + 1)).filter (finG s ls g) = if finG s ls g x = true then (P.take i).filter (finG s ls g) ++ [x] else (P.take i).filter (finG s ls g) := by
      rw [List.take_add_one, hx, List.filter_append]
      show _ ++ ([x].filter _) = _
      rw [List.filter_cons]
      split <;> simp
    have hS : PrtOk s ls g ((P.take i).filter (finG s ls g)) (prtG s ls g ((P.take i).filter (finG s ls g))) := prt_ok hf _ _ rfl fun y hy => by
      obtain ⟨h1, h2⟩ := List.mem_filter.1 hy
      exact ⟨hPm y (List.mem_of_mem_take h1), h2⟩
    have hsn := prt_snoc (s := s) (ls := ls) (g := g) ((P.take i).filter (finG s ls g)) x
    have hFl : ((P.take i).filter (finG s ls g)).length ≤ i := Nat.le_trans (List.length_filter_le _ _) (by rw [List.length_take]; omega)
    have hrl : (prtG s ls g ((P.take i).filter (finG s ls g))).rs.length ≤ i := Nat.le_trans hS.le hFl
    have hmx := metL_get (K := (prtG s ls g ((P.take i).filter (finG s ls g))).ks) hx
    generalize hSe : prtG s ls g ((P.take i).filter (finG s ls g)) = S at hS hsn hrl hmx ⊢
    cases hc : S.ks.contains x
    case true =>
      have hxm : x ∈ S.ks := by simpa using hc
      have hfx := (hS.fine x hxm).2
      rw [hfx, if_pos rfl] at htk
      have hP : prtStep s ls g S x = S := by unfold prtStep; rw [if_pos hc]
      rw [hP] at hsn
      rw [hc] at hmx
      repeat (first | (with_reducible (first | apply wA | apply wB | apply wC | apply wD | apply wE | apply wF | apply wG | apply wH | apply wI | apply wJ | apply wK | apply wL | apply wM | apply wN | apply wO | apply wP | apply wQ rfl | apply wR | apply wS | apply wT | apply wU)) | ((with_reducible (first | apply wV | apply wW | apply wX | (apply wY [] hTT cfMl_ok noM_ok mixed; (focus kernel_rfl)))); (focus (simp only [Tryz.f51, hlt', hmx, hmln, e4, List.length_map, go_sem]; with_reducible rfl))) | (with_reducible refine wZ hTT cfMl_ok noM_ok ?_) | (with_reducible refine wa ?_; refine And.intro ?_ ?_; (focus kernel_rfl)))
      refine roundQ.t 3 [9, 8, 7, 6, 5, 3, 2] hlt (by simp only [ltB_lbs, ltB_flds, ltB_is, ltB_isl, lI, lL, lTt, ltB_pv, go_sem]) (by rw [htk, hsn]; simp only [go_sem])
    rw [hc] at hmx
    cases hfx : finG s ls g x
    · rw [hfx, if_neg (by simp)] at htk
      repeat (first | (with_reducible (first | apply wA | apply wB | apply wC | apply wD | apply wE | apply wF | apply wG | apply wH | apply wI | apply wJ | apply wK | apply wL | apply wM | apply wN | apply wO | apply wP | apply wQ rfl | apply wR | apply wS | apply wT | apply wU)) | ((with_reducible (first | apply wV | apply wW | apply wX | (apply wY [] hTT cfMl_ok noM_ok mixed; (focus kernel_rfl)))); (focus (simp only [Tryz.f51, cfMl, c44, hd, hd2, hdx, hf, hg, hxp, hfx, closedL_lbs, closedL_flds, closedL_is, hlt', hx', hmx, hmln, e4, List.length_map, go_sem]; with_reducible rfl))) | (with_reducible refine wZ hTT cfMl_ok noM_ok ?_) | (with_reducible refine wa ?_; refine And.intro ?_ ?_; (focus kernel_rfl)))
      refine roundQ.t 3 [9, 8, 7, 6, 5, 3, 2] hlt (by simp only [ltB_lbs, ltB_flds, ltB_is, ltB_isl, lI, lL, lTt, ltB_pv, go_sem]) (by rw [htk, hSe]; simp only [go_sem])
    rw [hfx, if_pos rfl] at htk
    have hnx : x ∉ S.ks := by simpa using hc
    have hP : prtStep s ls g S x = ⟨S.ks ++ kyQ (awayG s ls g x), S.rs ++ [x]⟩ := by
      unfold prtStep
      rw [if_neg (by rw [hc]; simp), newK_eq hf hS hxp hfx hnx]
      rfl
    rw [hP] at hsn
    have hset := metL_set (K := S.ks) hPnd hx
    have e5 : IntKind.i64.wrap ((S.rs.length : Int) + 1) = ((S.rs.length + 1 : Nat) : Int) := wrap_id (by omega) (by omega)
    have hss : setElem (PV.bool false) 0 [PV.bool true] = PV.bool true := rfl
    repeat (first | (with_reducible (first | apply wA | ((fail_if_success (refine RunQ.seq (x := .region 9 _ _) ?_)); (apply wB)) | apply wC | apply wD | apply wE | apply wF | apply wG | apply wH | apply wI | apply wJ | apply wK | apply wL | apply wM | apply wN | apply wO | apply wP | apply wQ rfl | apply wR | apply wS | apply wT | apply wU)) | ((with_reducible (first | apply wV | apply wW | apply wX | (apply wY [] hTT cfMl_ok noM_ok mixed; (focus kernel_rfl)))); (focus (simp only [Tryz.f51, cfMl, c44, hd, hd2, hdx, hf, hg, hxp, hfx, closedL_lbs, closedL_flds, closedL_is, hlt', hx', hmx, hmln, List.length_map, go_sem]; with_reducible rfl))) | ((fail_if_success (with_reducible show RunQ _ (.region 9 _ _) _ _)); (with_reducible refine wZ hTT cfMl_ok noM_ok ?_)) | (with_reducible refine wa ?_; refine And.intro ?_ ?_; (focus kernel_rfl)))
    refine RunQ.keep [9, 8, 7, 6, 5, 3, 2] (by simp only [go_sem]; rfl) ?_
    repeat (first | (with_reducible (first | apply wA | ((fail_if_success (refine RunQ.seq (x := .region 11 _ _) ?_)); (apply wB)) | apply wC | apply wD | apply wE | apply wF | apply wG | apply wH | apply wI | apply wJ | apply wK | apply wL | apply wM | apply wN | apply wO | apply wP | apply wQ rfl | apply wR | apply wS | apply wT | apply wU)) | ((with_reducible (first | apply wV | apply wW | apply wX | (apply wY [] hTT cfMl_ok noM_ok mixed; (focus kernel_rfl)))); (focus (simp only [Tryz.f51, e5, hlt', hmx, hmln, hss, hset, List.length_map, go_sem]; with_reducible rfl))) | ((fail_if_success (with_reducible show RunQ _ (.region 11 _ _) _ _)); (with_reducible refine wZ hTT cfMl_ok noM_ok ?_)) | (with_reducible refine wa ?_; refine And.intro ?_ ?_; (focus kernel_rfl)))
    refine RunQ.keep [9, 8, 7, 6, 5, 3, 2] (by simp only [go_sem]; rfl) ?_
    refine RunQ.seq ?_
    refine RunQ.regG hTT cfMl_ok noM_ok ?_
    iterate 4 (apply RegG.step; (focus (simp only [Tryz.f51, hlt', hx', List.length_map, go_sem]; with_reducible rfl)))
    refine RegG.buildRow (t := 92) (e := 25) (len := 1) (d := 50) (es := [pvA x]) (by simp only [go_sem]) rfl rfl rfl rfl rfl rfl rfl ?_
    apply RegG.step
    · simp only [go_sem]; with_reducible rfl
    refine RegG.nil ?_
    refine thenQ.n ?_
    refine RunQ.keep [10, 9, 8, 7, 6, 5, 3, 2] (by simp only [go_sem]; rfl) ?_
    repeat (first | (with_reducible (first | apply wA | apply wB | apply wC | apply wD | apply wE | apply wF | apply wG | apply wH | apply wI | apply wJ | apply wK | apply wL | apply wM | apply wN | apply wO | apply wP | apply wQ rfl | apply wR | apply wS | apply wT | apply wU)) | ((with_reducible (first | apply wV | apply wW | apply wX | (apply wY [] hTT cfMl_ok noM_ok mixed; (focus kernel_rfl)))); (focus (simp only [Tryz.f51, go_sem]; with_reducible rfl))) | (with_reducible refine wZ hTT cfMl_ok noM_ok ?_) | (with_reducible refine wa ?_; refine And.intro ?_ ?_; (focus kernel_rfl)))
    refine RunQ.keep [11, 10, 9, 8, 7, 6, 5, 3, 2] (by simp only [go_sem]; rfl) ?_
    have hal := away_len (s := s) (ls := ls) (g := g) (f := x) hf hxp
    have hib : ∀ {q}, poseG ls q = true → (idxG ls q : Int) < P.length := fun {q} h => by
      have := (List.getElem?_eq_some_iff.1 (hPi h)).1
      omega
    refine RunQ.loop (fun k s' => k ≤ (awayQ s ls g x k).length ∧ s' = ⟨[(11, ii k), (10, .ms 4 (awayQ s ls g x k).length), (9, ii i), (8, ii ((S.rs.length + 1 : Nat) : Int)), (7, .ms 2 P.length), (6, .sl .a ((candG ls.length).map encT)), (5, .sl .a (P.map pvL)), (3, .bp 1 0), (2, .bp 0 0)], 100,
      [.var [ii s, .sl z (ls.map encLb)] false, .var [ii g.e.a, ii g.e.b, ii g.e.c, ii g.e.d, .sl zh (g.hs.map encFld), .sl zr (g.rs.map ii)] false, .row false 4 1 (metL P (S.ks ++ kyQ (awayQ s ls g x k))) false, .dead, .row false 25 1 (metE (awayQ s ls g x k)) false]⟩) 60000 ⟨Nat.zero_le _, rfl⟩ ?_
    rintro k _ hk ⟨hkq, rfl⟩
    have hQl := hal k
    by_cases hlk : k < (awayQ s ls g x k).length
    · have hlk' : (k : Int) < (awayQ s ls g x k).length := by omega
      obtain ⟨y, hy⟩ : ∃ y, (awayQ s ls g x k)[k]? = some y := ⟨_, List.getElem?_eq_getElem hlk⟩
      have hst := away_step hy
      have hyA := away_sub hk (List.mem_of_getElem? hy)
      have hyp := away_pose (s := s) (g := g) hxp k y (List.mem_of_getElem? hy)
      have hyl := (pose_at hyp).1
      have hnd := away_nodup (s := s) (ls := ls) (g := g) (f := x) k
      have hwp := away_pose (s := s) (g := g) hxp k
      have hcl := fun {q} (hq : q ∈ nbG s ls g y.1) => away_closed (g := g) hf hxp hyA hq
      have hpre : k + 1 ≤ (awayQ s ls g x (k + 1)).length := by
        obtain ⟨r, hr⟩ := bfs_succ (nb := nbG s ls g) (Q0 := [(x, 0)]) k
        have : awayQ s ls g x (k + 1) = awayQ s ls g x k ++ r := hr
        rw [this, List.length_append]; omega
      have hnew : ∀ q, q ∈ nbG s ls g y.1 → q ∉ S.ks := fun q hq => by
        obtain ⟨e, he, _⟩ := hcl hq
        exact new_all hf hS hxp hfx hnx (hasK_iff.2 ⟨e, he⟩)
      generalize hQ : awayQ s ls g x k = Q at *
      have hmy : (metE Q)[k]? = some (pvA y.1) := by unfold metE; rw [List.getElem?_map, hy]; rfl
      repeat (first | (with_reducible (first | apply wA | apply wB | apply wC | apply wD | apply wE | apply wF | apply wG | apply wH | apply wI | apply wJ | apply wK | apply wL | apply wM | apply wN | apply wO | apply wP | apply wQ rfl | apply wR | apply wS | apply wT | apply wU)) | ((with_reducible (first | apply wV | apply wW | apply wX | (apply wY [] hTT cfMl_ok noM_ok mixed; (focus kernel_rfl)))); (focus (simp only [Tryz.f51, hlk', hme, List.length_map, go_sem]; with_reducible rfl))) | (with_reducible refine wZ hTT cfMl_ok noM_ok ?_) | (with_reducible refine wa ?_; refine And.intro ?_ ?_; (focus kernel_rfl)))
      refine RunQ.keep [12, 11, 10, 9, 8, 7, 6, 5, 3, 2] (by simp only [go_sem]; rfl) ?_
      refine RunQ.loop (fun j s' => s' = ⟨[(12, ii j), (11, ii k), (10, .ms 4 (addN (y.2 + 1) Q (nbK s ls g y.1 j)).length), (9, ii i), (8, ii ((S.rs.length + 1 : Nat) : Int)), (7, .ms 2 P.length), (6, .sl .a ((candG ls.length).map encT)), (5, .sl .a (P.map pvL)), (3, .bp 1 0), (2, .bp 0 0)], 100,
        [.var [ii s, .sl z (ls.map encLb)] false, .var [ii g.e.a, ii g.e.b, ii g.e.c, ii g.e.d, .sl zh (g.hs.map encFld), .sl zr (g.rs.map ii)] false, .row false 4 1 (metL P (S.ks ++ kyQ (addN (y.2 + 1) Q (nbK s ls g y.1 j)))) false, .dead, .row false 25 1 (metE (addN (y.2 + 1) Q (nbK s ls g y.1 j))) false]⟩) (2 * ls.length) rfl ?_
      rintro j _ hj rfl
      obtain ⟨hWp, hWd, hWl⟩ := addW hf hwp hnd (ys := nbK s ls g y.1 j) (fun q hq => by obtain ⟨_, _, _, h, _⟩ := nb_mem.1 (nbK_sub hq); exact h) (y.2 + 1)
      have hWy : (addN (y.2 + 1) Q (nbK s ls g y.1 j))[k]? = some y := by
        obtain ⟨r, hr, _⟩ := addN_ex (d := y.2 + 1) (nbK s ls g y.1 j) Q
        rw [hr, List.getElem?_append_left hlk]; exact hy
      by_cases hlj : j < 2 * ls.length
      · have hlj' : (j : Int) < (candG ls.length).length := by rw [cand_len]; omega
        obtain ⟨t, ht⟩ : ∃ t, (candG ls.length)[j]? = some t := ⟨_, List.getElem?_eq_getElem (by rw [cand_len]; omega)⟩
        have ht' : ((candG ls.length).map encT)[j]? = some (.agg [ii t.1, ii t.2]) := by rw [List.getElem?_map, ht]; rfl
        have htb := trnB_pose hf hyp (List.mem_of_getElem? ht)
        have e6 : IntKind.i64.wrap ((j : Int) + 1) = ((j + 1 : Nat) : Int) := wrap_id (by omega) (by omega)
        have hstep : addN (y.2 + 1) Q (nbK s ls g y.1 (j + 1)) = if okT s ls g y.1 t = true then addQ (y.2 + 1) (addN (y.2 + 1) Q (nbK s ls g y.1 j)) (trnG y.1 t) else addN (y.2 + 1) Q (nbK s ls g y.1 j) := by
          rw [nbK_step ht]
          split
          · exact addN_snoc _ _
          · rfl
        have hnq : okT s ls g y.1 t = true → trnG y.1 t ∉ S.ks := fun h => hnew _ (nb_mem.2 ⟨t, List.mem_of_getElem? ht, rfl, by unfold okT at h; rw [Bool.and_eq_true] at h; exact h⟩)
        generalize hW : addN (y.2 + 1) Q (nbK s ls g y.1 j) = W at *
        have hWm : (metE W)[k]? = some (pvA y.1) := by unfold metE; rw [List.getElem?_map, hWy]; rfl
        have hdy2 : decL decI (y.1.map ii) = some y.1 := decIs y.1
        have hqz : closedL ((trnG y.1 t).map ii) = true := closedL_is _
        have hql : ((trnG y.1 t).map ii).length = y.1.length := by rw [List.length_map, trn_len]
        have hkW : (k : Int) < W.length := by
          have := (List.getElem?_eq_some_iff.1 hWy).1
          omega
        repeat (first | (with_reducible (first | apply wA | ((fail_if_success (refine RunQ.seq (x := .region 19 _ _) ?_)); (apply wB)) | apply wC | apply wD | apply wE | apply wF | apply wG | apply wH | apply wI | apply wJ | apply wK | apply wL | apply wM | apply wN | apply wO | apply wP | apply wQ rfl | apply wR | apply wS | apply wT | apply wU)) | ((with_reducible (first | apply wV | apply wW | apply wX | (apply wY [] hTT cfMl_ok noM_ok mixed; (focus kernel_rfl)))); (focus (simp only [Tryz.f51, cfMl, c145, hlj', hWm, hme, ht', hdy2, htb, hkW, trn_len, closedL_is, closedL, PV.closed, List.length_map, go_sem]; with_reducible rfl))) | ((fail_if_success (with_reducible show RunQ _ (.region 19 _ _) _ _)); (with_reducible refine wZ hTT cfMl_ok noM_ok ?_)) | (with_reducible refine wa ?_; refine And.intro ?_ ?_; (focus kernel_rfl)))
        refine RunQ.freeze 13 5 rfl rfl hql hqz rfl rfl ?_
        refine RunQ.keep [13, 12, 11, 10, 9, 8, 7, 6, 5, 3, 2] (by simp only [go_sem]; rfl) ?_
        unfold okT at hstep hnq
        have hdq := decIs1_enc (z := .a) (l := trnG y.1 t) (by cases trnG y.1 t <;> rfl)
        generalize trnG y.1 t = q at hstep hnq hdq hqz ⊢
        cases hq1 : poseG ls q
        · rw [hq1] at hstep
          have hstep : addN (y.2 + 1) Q (nbK s ls g y.1 (j + 1)) = W := hstep
          repeat (first | (with_reducible (first | apply wA | apply wB | apply wC | apply wD | apply wE | apply wF | apply wG | apply wH | apply wI | apply wJ | apply wK | apply wL | apply wM | apply wN | apply wO | apply wP | apply wQ rfl | apply wR | apply wS | apply wT | apply wU)) | ((with_reducible (first | apply wV | apply wW | apply wX | (apply wY [] hTT cfMl_ok noM_ok mixed; (focus kernel_rfl)))); (focus (simp only [Tryz.f51, cfMl, c86, hd, hdq, hs2, hq1, e6, go_sem]; with_reducible rfl))) | (with_reducible refine wZ hTT cfMl_ok noM_ok ?_) | (with_reducible refine wa ?_; refine And.intro ?_ ?_; (focus kernel_rfl)))
          refine roundQ.t 5 [12, 11, 10, 9, 8, 7, 6, 5, 3, 2] hlj (by simp only [ltB_lbs, ltB_flds, ltB_is, ltB_isl, lI, lL, lM, lTt, ltB_pv, go_sem]) (by rw [hstep]; simp only [go_sem])
        cases hq2 : finG s ls g q
        · rw [hq1, hq2] at hstep
          have hstep : addN (y.2 + 1) Q (nbK s ls g y.1 (j + 1)) = W := hstep
          repeat (first | (with_reducible (first | apply wA | apply wB | apply wC | apply wD | apply wE | apply wF | apply wG | apply wH | apply wI | apply wJ | apply wK | apply wL | apply wM | apply wN | apply wO | apply wP | apply wQ rfl | apply wR | apply wS | apply wT | apply wU)) | ((with_reducible (first | apply wV | apply wW | apply wX | (apply wY [] hTT cfMl_ok noM_ok mixed; (focus kernel_rfl)))); (focus (simp only [Tryz.f51, cfMl, c86, c44, hd, hd2, hdq, hs2, hf, hg, hq1, hq2, e6, go_sem]; with_reducible rfl))) | (with_reducible refine wZ hTT cfMl_ok noM_ok ?_) | (with_reducible refine wa ?_; refine And.intro ?_ ?_; (focus kernel_rfl)))
          refine roundQ.t 5 [12, 11, 10, 9, 8, 7, 6, 5, 3, 2] hlj (by simp only [ltB_lbs, ltB_flds, ltB_is, ltB_isl, lI, lL, lM, lTt, ltB_pv, go_sem]) (by rw [hstep]; simp only [go_sem])
        rw [hq1, hq2] at hstep hnq
        have hnq := hnq rfl
        have hstep : addN (y.2 + 1) Q (nbK s ls g y.1 (j + 1)) = addQ (y.2 + 1) W q := hstep
        have hiq := hib hq1
        have hgq := metL_get (K := S.ks ++ kyQ W) (hPi hq1)
        have hcq : (S.ks ++ kyQ W).contains q = hasK W q := by
          rw [← kyQ_has]
          rw [Bool.eq_iff_iff]
          simp [hnq]
        rw [hcq] at hgq
        unfold addQ at hstep
        cases hh : hasK W q
        · rw [hh] at hgq
          rw [if_neg (by rw [hh]; simp)] at hstep
          have hqs := metL_set (K := S.ks ++ kyQ W) hPnd (hPi hq1)
          have hkq : (S.ks ++ kyQ W) ++ [q] = S.ks ++ kyQ (W ++ [(q, y.2 + 1)]) := by rw [kyQ_snoc, List.append_assoc]
          rw [hkq] at hqs
          have hms : metE (W ++ [(q, y.2 + 1)]) = metE W ++ [pvA q] := by unfold metE; simp
          have r2 : W.length + 1 ≤ maxLen := by unfold maxLen; omega
          have r3 : (W.length + 1) * 24 ≤ 140737488355328 := by omega
          have hdW : decide (W.length + 1 = 0) = false := by simp
          repeat (first | (with_reducible (first | apply wA | apply wB | apply wC | apply wD | apply wE | apply wF | apply wG | apply wH | apply wI | apply wJ | apply wK | apply wL | apply wM | apply wN | apply wO | apply wP | apply wQ rfl | apply wR | apply wS | apply wT | apply wU)) | ((with_reducible (first | apply wV | apply wW | apply wX | (apply wY [] hTT cfMl_ok noM_ok mixed; (focus kernel_rfl)))); (focus (simp only [Tryz.f51, cfMl, c86, c44, c103, hd, hd2, hdq, hs2, hf, hg, hq1, hq2, hmln, hgq, hiq, hss, hqs, hme, r2, r3, e6, Int.toNat_natCast, Int.natCast_nonneg, List.length_map, go_sem]; with_reducible rfl))) | (with_reducible refine wZ hTT cfMl_ok noM_ok ?_) | (with_reducible refine wa ?_; refine And.intro ?_ ?_; (focus kernel_rfl)))
          refine roundQ.t 5 [12, 11, 10, 9, 8, 7, 6, 5, 3, 2] hlj (by simp only [ltB_lbs, ltB_flds, ltB_is, ltB_isl, lI, lL, lM, lTt, ltB_pv, go_sem]) (by rw [hstep, hms, List.length_append, List.length_singleton]; simp only [go_sem])
        · rw [hh] at hgq
          rw [if_pos hh] at hstep
          repeat (first | (with_reducible (first | apply wA | apply wB | apply wC | apply wD | apply wE | apply wF | apply wG | apply wH | apply wI | apply wJ | apply wK | apply wL | apply wM | apply wN | apply wO | apply wP | apply wQ rfl | apply wR | apply wS | apply wT | apply wU)) | ((with_reducible (first | apply wV | apply wW | apply wX | (apply wY [] hTT cfMl_ok noM_ok mixed; (focus kernel_rfl)))); (focus (simp only [Tryz.f51, cfMl, c86, c44, c103, hd, hd2, hdq, hs2, hf, hg, hq1, hq2, hmln, hgq, hiq, e6, Int.toNat_natCast, Int.natCast_nonneg, List.length_map, go_sem]; with_reducible rfl))) | (with_reducible refine wZ hTT cfMl_ok noM_ok ?_) | (with_reducible refine wa ?_; refine And.intro ?_ ?_; (focus kernel_rfl)))
          refine roundQ.t 5 [12, 11, 10, 9, 8, 7, 6, 5, 3, 2] hlj (by simp only [ltB_lbs, ltB_flds, ltB_is, ltB_isl, lI, lL, lM, lTt, ltB_pv, go_sem]) (by rw [hstep]; simp only [go_sem])
      · have hlj' : ¬ (j : Int) < (candG ls.length).length := by rw [cand_len]; omega
        obtain rfl : j = 2 * ls.length := by omega
        have e7 : IntKind.i64.wrap ((k : Int) + 1) = ((k + 1 : Nat) : Int) := wrap_id (by omega) (by omega)
        rw [nbK_all, ← hst]
        repeat (first | (with_reducible (first | apply wA | apply wB | apply wC | apply wD | apply wE | apply wF | apply wG | apply wH | apply wI | apply wJ | apply wK | apply wL | apply wM | apply wN | apply wO | apply wP | apply wQ rfl | apply wR | apply wS | apply wT | apply wU)) | ((with_reducible (first | apply wV | apply wW | apply wX | (apply wY [] hTT cfMl_ok noM_ok mixed; (focus kernel_rfl)))); (focus (simp only [Tryz.f51, hlj', e7, List.length_map, go_sem]; with_reducible rfl))) | (with_reducible refine wZ hTT cfMl_ok noM_ok ?_) | (with_reducible refine wa ?_; refine And.intro ?_ ?_; (focus kernel_rfl)))
        have hk6 : k < 60000 := by omega
        refine roundQ.t 5 [11, 10, 9, 8, 7, 6, 5, 3, 2] hk6 (by simp only [ltB_lbs, ltB_flds, ltB_is, ltB_isl, lI, lL, lM, lTt, ltB_pv, go_sem]) ⟨hpre, by simp only [go_sem]⟩
    · have hlk' : ¬ (k : Int) < (awayQ s ls g x k).length := by omega
      have he := away_end (s := s) (ls := ls) (g := g) (f := x) (i := k) (by omega) (by omega)
      rw [he] at hlk' ⊢
      have hrx : (S.rs ++ [x]).length = S.rs.length + 1 := by simp
      generalize awayG s ls g x = Q at hsn hlk' ⊢
      repeat (first | (with_reducible (first | apply wA | apply wB | apply wC | apply wD | apply wE | apply wF | apply wG | apply wH | apply wI | apply wJ | apply wK | apply wL | apply wM | apply wN | apply wO | apply wP | apply wQ rfl | apply wR | apply wS | apply wT | apply wU)) | ((with_reducible (first | apply wV | apply wW | apply wX | (apply wY [] hTT cfMl_ok noM_ok mixed; (focus kernel_rfl)))); (focus (simp only [Tryz.f51, hlk', hme, e4, List.length_map, go_sem]; with_reducible rfl))) | (with_reducible refine wZ hTT cfMl_ok noM_ok ?_) | (with_reducible refine wa ?_; refine And.intro ?_ ?_; (focus kernel_rfl)))
      refine roundQ.t 3 [9, 8, 7, 6, 5, 3, 2] hlt (by simp only [ltB_lbs, ltB_flds, ltB_is, ltB_isl, lI, lL, lM, lTt, ltB_pv, go_sem]) (by rw [htk, hsn]; dsimp only; rw [hrx]; simp only [go_sem])
  · have hlt' : ¬ (i : Int) < P.length := by omega
    obtain rfl : i = P.length := by omega
    rw [List.take_length]
    generalize prtG s ls g (P.filter (finG s ls g)) = S
    repeat (first | (with_reducible (first | apply wA | apply wB | apply wC | apply wD | apply wE | apply wF | apply wG | apply wH | apply wI | apply wJ | apply wK | apply wL | apply wM | apply wN | apply wO | apply wP | apply wQ rfl | apply wR | apply wS | apply wT | apply wU)) | ((with_reducible (first | apply wV | apply wW | apply wX | (apply wY [] hTT cfMl_ok noM_ok mixed; (focus kernel_rfl)))); (focus (simp only [Tryz.f51, hlt', List.length_map, go_sem]; with_reducible rfl))) | (with_reducible refine wZ hTT cfMl_ok noM_ok ?_) | (with_reducible refine wa ?_; refine And.intro ?_ ?_; (focus kernel_rfl)))
    exact ⟨rfl, rfl, _, rfl, leave_closed rfl⟩
end Go.Pv
