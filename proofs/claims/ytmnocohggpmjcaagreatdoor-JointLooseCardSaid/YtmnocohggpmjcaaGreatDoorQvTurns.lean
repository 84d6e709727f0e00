/- Contracts: the least and the greatest turns over all poses with an end at a place. -/
import Derived.Test.YtmnocohggpmjcaaGreatDoorQoFine
import Derived.Test.YtmnocohggpmjcaaGreatDoorQfJoint
import Derived.Test.YtmnocohggpmjcaaGreatDoorQgEnds
import Derived.Test.YtmnocohggpmjcaaGreatDoorQlLoop
set_option linter.all false
namespace Go.Pv
open Go Go.RowKit Go.Proofs
set_option maxRecDepth 10000
set_option maxHeartbeats 4000000
def mmS (a : Int × Int) (n : Int) : Int × Int := (min a.1 n, max a.2 n)
def firstB (B : List (Int × Int)) (l : List Int) : List (Int × Int) := if B = [] then l.map (fun n => (n, n)) else B
def stepM (B : List (Int × Int)) (l : List Int) : List (Int × Int) := List.zipWith mmS (firstB B l) l
/-- The bounds of all turns of some poses. -/
def bndG (M : List (List Int)) : List (Int × Int) := M.foldl stepM []
theorem bnd_snoc (M : List (List Int)) (l : List Int) : bndG (M ++ [l]) = stepM (bndG M) l := by unfold bndG; rw [List.foldl_append]; rfl
theorem first_len {n : Nat} {B : List (Int × Int)} {l : List Int} (hl : l.length = n) (hB : B = [] ∨ B.length = n) : (firstB B l).length = n := by
  unfold firstB
  split
  · simp [hl]
  · rename_i h
    exact hB.resolve_left h
theorem step_len {n : Nat} {B : List (Int × Int)} {l : List Int} (hl : l.length = n) (hB : B = [] ∨ B.length = n) : (stepM B l).length = n := by
  unfold stepM
  rw [List.length_zipWith, first_len hl hB, hl, Nat.min_self]
theorem bnd_len {n : Nat} : ∀ (M : List (List Int)), (∀ l ∈ M, l.length = n) → (bndG M = [] ∨ (bndG M).length = n) ∧ (M ≠ [] → (bndG M).length = n) := by
  have key : ∀ (M : List (List Int)) (B : List (Int × Int)), (∀ l ∈ M, l.length = n) → (B = [] ∨ B.length = n) → (M.foldl stepM B = [] ∨ (M.foldl stepM B).length = n) ∧ (M ≠ [] → (M.foldl stepM B).length = n) := by
    intro M
    induction M with
    | nil => intro B _ hB; exact ⟨hB, fun h => absurd rfl h⟩
    | cons l M ih =>
      intro B hM hB
      have h1 := step_len (hM l (by simp)) hB
      obtain ⟨a, b⟩ := ih (stepM B l) (fun x hx => hM x (by simp [hx])) (.inr h1)
      refine ⟨a, fun _ => ?_⟩
      cases M with
      | nil => exact h1
      | cons x M => exact b (by simp)
  intro M hM
  exact key M [] hM (.inl rfl)
/-- Behind the k-th limb of a pose. -/
def mmK (k : Nat) (B : List (Int × Int)) (l : List Int) : List (Int × Int) := (List.zipWith mmS B l).take k ++ B.drop k
theorem mmK_zero (B : List (Int × Int)) (l : List Int) : mmK 0 B l = B := by simp [mmK]
theorem mmK_len {k : Nat} {B : List (Int × Int)} {l : List Int} (hl : l.length = B.length) (hk : k ≤ B.length) : (mmK k B l).length = B.length := by
  simp [mmK, hl]; omega
theorem mmK_all {B : List (Int × Int)} {l : List Int} (hl : l.length = B.length) : mmK B.length B l = List.zipWith mmS B l := by
  unfold mmK
  rw [List.drop_length, List.append_nil, List.take_of_length_le (by simp [hl])]
theorem mmK_get {k : Nat} {B : List (Int × Int)} {l : List Int} {a : Int × Int} (hl : l.length = B.length) (ha : B[k]? = some a) : (mmK k B l)[k]? = some a := by
  have hk := (List.getElem?_eq_some_iff.1 ha).1
  unfold mmK
  rw [List.getElem?_append_right (by simp [hl]; omega)]
  have : k - ((List.zipWith mmS B l).take k).length = 0 := by simp [hl]; omega
  rw [this, List.getElem?_drop, Nat.add_zero]
  exact ha
theorem mmK_set {k : Nat} {B : List (Int × Int)} {l : List Int} {a : Int × Int} {n : Int} (hl : l.length = B.length) (ha : B[k]? = some a) (hn : l[k]? = some n) : (mmK k B l).set k (mmS a n) = mmK (k + 1) B l := by
  have hk := (List.getElem?_eq_some_iff.1 ha).1
  have hz : (List.zipWith mmS B l)[k]? = some (mmS a n) := by rw [List.getElem?_zipWith, ha, hn]
  unfold mmK
  rw [List.set_append_right _ _ (by simp [hl]; omega)]
  have : k - ((List.zipWith mmS B l).take k).length = 0 := by simp [hl]; omega
  rw [this, List.take_add_one, hz, List.append_assoc]
  congr 1
  rw [List.drop_eq_getElem_cons hk]
  rfl
theorem map_set_sp (B : List (Int × Int)) (k : Nat) (a : Int × Int) : (B.map spE).set k (.agg [ii a.1, ii a.2]) = (B.set k a).map spE := by
  rw [List.map_set]; rfl
theorem St_eq {tm tm' : List (Nat × PV)} {n : Nat} {sg sg' : List Box} (h1 : tm = tm') (h2 : sg = sg') : (⟨tm, n, sg⟩ : St) = ⟨tm', n, sg'⟩ := by rw [h1, h2]
theorem setElem2 (a b x y : PV) : setElem (.agg [a, b]) 0 [x, y] = .agg [x, y] := rfl
/-- The poses in which the end of a limb is at a place. -/
def atG (s : Int) (ls : List Lb) (limb : Int) (p : Pl) (l : List Int) : Bool := decide (endG1 s ls limb l = p)
def matG (s : Int) (ls : List Lb) (limb : Int) (p : Pl) : List (List Int) := (posesG ls).filter (atG s ls limb p)
def turnQ (M : List (List Int)) (limb : Int) (o : Out) (st' : St) : Prop := match M with
  | [] => o = .panic (.iface 192 (.agg [ii limb])) ∧ sameLoopsC [] st'.sg = true
  | _ :: _ => o.ends = true ∧ sameLoopsC [] st'.sg = true ∧ ∃ v', resC TT st' Tryz.f95.results = some v' ∧ leaveC0 0 v' st'.sg = (.sl .a ((bndG M).map spE), [])
def cfKa : CallF := cfAdd (cfAdd cf0 90 c90) 87 c87
theorem cfKa_ok : CallFOk Tryz.prog cfKa := cfAdd_ok (cfAdd_ok cf0_ok c90_ok) c87_ok
theorem pl_eq (x p : Pl) : (x.fst == p.fst && x.snd == p.snd) = decide (x = p) := by
  rw [Bool.eq_iff_iff]
  simp [Prod.ext_iff]
theorem turns_run (s : Int) (z : Z) (ls : List Lb) (limb : Int) (p : Pl) (hzo : zOk z (ls.map encLb) = true) (hf : figB s ls = true) (hli : 0 ≤ limb ∧ limb < ls.length) (c : Code) (hc : Tryz.f95.body = some c) :
    RunQ Tryz.prog c ⟨argT 0 [.agg [ii s, .sl z (ls.map encLb)], ii limb, .agg [ii p.1, ii p.2]], 71, []⟩ (turnQ (matG s ls limb p) limb) := by
  obtain rfl := Option.some.inj (show some _ = some c from hc)
  clear hc
  have hd := decFig_enc s z ls hzo
  have hl := fig_len hf
  have hs : ls.length ≤ maxLen := by unfold maxLen; omega
  have hs2 : ls.length ≤ 1000 := by omega
  have hne : ls ≠ [] := fun e => by rw [e] at hl; simp at hl
  have hPm : ∀ l ∈ posesG ls, poseG ls l = true := fun l h => mem_poses.1 h
  have hPl := poses_len hf
  have hspc : (spP .a (spansG ls)).closed = true := by
    show closedL [.sl .a ((spansG ls).map spE)] = true
    simp [closedL, PV.closed, closedL_sp]
  have hit := lists_166 .a (spansG ls) (by simp) (spans_in hf) (by simp [spansG]; omega)
  unfold matG
  repeat (first | (with_reducible (first | apply wA | apply wB | apply wC | apply wD | apply wE | apply wF | apply wG | apply wH | apply wI | apply wJ | apply wK | apply wL | apply wM | apply wN | apply wO | apply wP | apply wQ rfl | apply wR | apply wS | apply wT | apply wU)) | ((with_reducible (first | apply wV | apply wW | apply wX | (apply wY [] hTT cfKa_ok noM_ok mixed; (focus kernel_rfl)))); (focus (simp only [Tryz.f95, cfKa, c90, hd, hne, hs2, notYield, go_sem]; with_reducible rfl))) | (with_reducible refine wZ hTT cfKa_ok noM_ok ?_) | (with_reducible refine wa ?_; refine And.intro ?_ ?_; (focus kernel_rfl)))
  refine RunQ.keep [14, 7, 5, 4, 3] (by simp only [go_sem]; rfl) ?_
  refine RunQ.nilBox (sg' := [.var [ii s, .sl z (ls.map encLb)] false, .var [ii limb] false, .var [ii p.1, ii p.2] false, .var [.ms 4 0] false, .row true 39 2 [] false]) 3 0 39 2 rfl rfl rfl ?_
  have hTe : exts (spansG ls) [] = posesG ls := rfl
  rw [hTe] at hit
  generalize posesG ls = T at *
  have hfl : ∀ i, ∀ l ∈ (T.take i).filter (atG s ls limb p), l.length = ls.length := fun i l h => (pose_at (hPm l (List.mem_of_mem_take (List.mem_filter.1 h).1))).1
  have hcf : closedL [ii s, .sl z (ls.map encLb)] = true := by simp [closedL, PV.closed, closedL_lbs]
  refine RunQ.range (L := T.map fun l => [pvL l]) (first := []) (cap := [spP .a (spansG ls)]) rfl (ent Tryz.func166 rfl) hit ?_ ?_ ?_
    (fun i st => st = [.var [ii s, .sl z (ls.map encLb)] false, .var [ii limb] false, .var [ii p.1, ii p.2] false, .var [.ms 4 (bndG ((T.take i).filter (atG s ls limb p))).length] false, .row (decide ((bndG ((T.take i).filter (atG s ls limb p))).length = 0)) 39 2 ((bndG ((T.take i).filter (atG s ls limb p))).map spE) false])
    rfl ?_ ?_ ?_
  · intro e he
    obtain ⟨l, _, rfl⟩ := List.mem_map.1 he
    rfl
  · intro p hp
    have hp7 : p = 15 := by simpa using hp
    subst hp7
    show (15 : Nat) < 71
    decide
  · intro t v hv
    obtain ⟨p, hp, rfl⟩ := getT_mem hv
    simp only [List.mem_cons, List.not_mem_nil, or_false] at hp
    rcases hp with rfl | rfl | rfl | rfl | rfl
    · refine .fn (fun c hc => by cases hc) fun c hc => ?_
      simp only [List.mem_cons, List.not_mem_nil, or_false] at hc
      subst hc
      exact (lt_of_closed _ hspc).mono (by omega)
    · exact .bp (show (3 : Nat) < 6 by decide)
    · exact .bp (show (2 : Nat) < 6 by decide)
    · exact .bp (show (1 : Nat) < 6 by decide)
    · exact .bp (show (0 : Nat) < 6 by decide)
  · rintro i st rfl
    refine ⟨rfl, fun x hx => ?_, sameLoops_of _ _ rfl⟩
    simp only [List.mem_cons, List.not_mem_nil, or_false] at hx
    rcases hx with rfl | rfl | rfl | rfl | rfl
    · exact fun c hc => (lt_of_closedL _ hcf c hc).mono (Nat.zero_le _)
    · exact fun c hc => (lt_of_closedL _ (show closedL [ii limb] = true from rfl) c hc).mono (Nat.zero_le _)
    · exact fun c hc => (lt_of_closedL _ (show closedL [ii p.1, ii p.2] = true from rfl) c hc).mono (Nat.zero_le _)
    · exact fun c hc => by
        simp only [List.mem_cons, List.not_mem_nil, or_false] at hc
        subst hc
        exact .ms (show (4 : Nat) < 6 by decide)
    · exact fun c hc => (lt_of_closedL _ (closedL_flat _ (closedL_sp _)) c hc).mono (Nat.zero_le _)
  · rintro i e st he rfl
    obtain ⟨l, hl2, rfl⟩ : ∃ l, T[i]? = some l ∧ e = [pvL l] := by
      rw [List.getElem?_map, Option.map_eq_some_iff] at he
      obtain ⟨l, a, rfl⟩ := he
      exact ⟨l, a, rfl⟩
    have hpl : poseG ls l = true := hPm l (List.mem_of_getElem? hl2)
    have hll := (pose_at hpl).1
    have hlne : l ≠ [] := fun e => by rw [e] at hll; simp at hll; omega
    have hzn : pvL l = .sl .a (l.map ii) := by
      unfold pvL
      cases l with
      | nil => exact absurd rfl hlne
      | cons a r => rfl
    have hzk : zOk .a (l.map ii) = true := by cases l <;> rfl
    have hd3' := decIs1_enc hzk
    have g0 := ends_get (s := s) hf hpl hli
    have g0' : ((ends s ls l).map encPl)[limb.toNat]? = some (.agg [ii (endG1 s ls limb l).1, ii (endG1 s ls limb l).2]) := by rw [List.getElem?_map, g0]; rfl
    have hlt := (List.getElem?_eq_some_iff.1 g0).1
    rw [ends_ln hf hpl] at hlt
    have hel : (ends s ls l).length = ls.length := ends_ln hf hpl
    have h0l := hli.1
    have h1l := hli.2
    have hpe := pl_eq (endG1 s ls limb l) p
    have hB := bnd_len _ (hfl i)
    have htk : (T.take (i + 1)).filter (atG s ls limb p) = (T.take i).filter (atG s ls limb p) ++ if atG s ls limb p l = true then [l] else [] := by
      rw [List.take_add_one, hl2, List.filter_append]
      simp [List.filter_cons]
    rw [hzn]
    refine .next _ rfl fun own ho => ?_
    rw [htk]
    generalize (T.take i).filter (atG s ls limb p) = M at hB ⊢
    have hdc : decide (endG1 s ls limb l = p) = atG s ls limb p l := rfl
    unfold YRun
    generalize hX : Box.loop _ = X1
    cases hfi : atG s ls limb p l
    · rw [hfi] at hdc
      rw [hdc] at hpe
      rw [if_neg (by simp), List.append_nil]
      repeat (first | (with_reducible (first | apply wA | apply wB | apply wC | apply wD | apply wE | apply wF | apply wG | apply wH | apply wI | apply wJ | apply wK | apply wL | apply wM | apply wN | apply wO | apply wP | apply wQ rfl | apply wR | apply wS | apply wT | apply wU)) | ((with_reducible (first | apply wV | apply wW | apply wX | (apply wY [] hTT cfKa_ok noM_ok mixed; (focus kernel_rfl)))); (focus (simp only [Tryz.f95, putPs, List.toList_toArray, go_sem]; with_reducible rfl))) | (with_reducible refine wZ hTT cfKa_ok noM_ok ?_) | (with_reducible refine wa ?_; refine And.intro ?_ ?_; (focus kernel_rfl)))
      refine ⟨rfl, own, by rw [← hX]; rfl, ?_⟩
      dsimp only
      generalize hX2 : Box.loop _ = X2
      repeat (first | (with_reducible (first | apply wA | apply wB | apply wC | apply wD | apply wE | apply wF | apply wG | apply wH | apply wI | apply wJ | apply wK | apply wL | apply wM | apply wN | apply wO | apply wP | apply wQ rfl | apply wR | apply wS | apply wT | apply wU)) | ((with_reducible (first | apply wV | apply wW | apply wX | (apply wY [] hTT cfKa_ok noM_ok mixed; (focus kernel_rfl)))); (focus (simp only [Tryz.f95, cfKa, c87, hd, hd3', hf, hpl, hpe, g0', h0l, h1l, hel, closedL_lbs, closedL_is, get_last, set_last, freeB, List.length_map, go_sem]; with_reducible rfl))) | (with_reducible refine wZ hTT cfKa_ok noM_ok ?_) | (with_reducible refine wa ?_; refine And.intro ?_ ?_; (focus kernel_rfl)))
      exact ⟨rfl, [.dead], by rw [← hX2]; simp⟩
    · rw [hfi] at hdc
      rw [hdc] at hpe
      rw [if_pos rfl, bnd_snoc]
      generalize bndG M = B at hB ⊢
      obtain ⟨hB, _⟩ := hB
      repeat (first | (with_reducible (first | apply wA | apply wB | apply wC | apply wD | apply wE | apply wF | apply wG | apply wH | apply wI | apply wJ | apply wK | apply wL | apply wM | apply wN | apply wO | apply wP | apply wQ rfl | apply wR | apply wS | apply wT | apply wU)) | ((with_reducible (first | apply wV | apply wW | apply wX | (apply wY [] hTT cfKa_ok noM_ok mixed; (focus kernel_rfl)))); (focus (simp only [Tryz.f95, putPs, List.toList_toArray, go_sem]; with_reducible rfl))) | (with_reducible refine wZ hTT cfKa_ok noM_ok ?_) | (with_reducible refine wa ?_; refine And.intro ?_ ?_; (focus kernel_rfl)))
      refine ⟨rfl, own, by rw [← hX]; rfl, ?_⟩
      dsimp only
      generalize hX2 : Box.loop _ = X2
      have hn0 : decide (ls.length = 0) = false := by simp [hne]
      rw [step_len hll hB, hn0]
      by_cases hB0 : B = []
      · have hB1 : (l.map fun n => (n, n)).length = ls.length := by rw [List.length_map]; exact hll
        have hst : List.zipWith mmS (l.map fun n => (n, n)) l = stepM B l := by unfold stepM firstB; rw [if_pos hB0]
        have hb0 : B.length = 0 := by rw [hB0]; rfl
        have hbm : B.map spE = [] := by rw [hB0]; rfl
        have hdt : decide ((0 : Nat) = 0) = true := rfl
        rw [hb0, hbm, hdt]
        repeat (first | (with_reducible (first | apply wA | apply wB | apply wC | apply wD | apply wE | apply wF | apply wG | apply wH | apply wI | apply wJ | apply wK | apply wL | apply wM | apply wN | apply wO | apply wP | apply wQ rfl | apply wR | apply wS | apply wT | apply wU)) | ((with_reducible (first | apply wV | apply wW | apply wX | (apply wY [] hTT cfKa_ok noM_ok mixed; (focus kernel_rfl)))); (focus (simp only [Tryz.f95, cfKa, c87, hd, hd3', hf, hpl, hpe, g0', h0l, h1l, hel, closedL_lbs, closedL_is, get_last, set_last, freeB, List.length_map, go_sem]; with_reducible rfl))) | (with_reducible refine wZ hTT cfKa_ok noM_ok ?_) | (with_reducible refine wa ?_; refine And.intro ?_ ?_; (focus kernel_rfl)))
        refine RunQ.keep [28, 27, 26, 8, 7] (by simp only [go_sem]; rfl) ?_
        refine RunQ.loop (fun k s' => ∃ C : List Box, s' = ⟨[(28, ii k), (27, ii ls.length), (26, .sl .a (l.map ii)), (8, .sl .a (l.map ii)), (7, .bp 3 0)], 71, [.var [ii s, .sl z (ls.map encLb)] false, .var [ii limb] false, .var [ii p.1, ii p.2] false, .var [.ms 4 k] false, .row (decide (k = 0)) 39 2 (((l.take k).map fun n => (n, n)).map spE) false] ++ X2 :: (own ++ C)⟩) ls.length ⟨[.dead], by rw [hll]; rfl⟩ ?_
        rintro k _ hk ⟨C, rfl⟩
        by_cases hkl : k < ls.length
        · obtain ⟨t, ht⟩ : ∃ t, l[k]? = some t := ⟨_, List.getElem?_eq_getElem (by omega)⟩
          have ht' : (l.map ii)[k]? = some (ii t) := map_get ht
          have hkl' : (k : Int) < ls.length := by omega
          have e4 : IntKind.i64.wrap ((k : Int) + 1) = ((k + 1 : Nat) : Int) := wrap_id (by omega) (by omega)
          have r2 : k + 1 ≤ maxLen := by unfold maxLen; omega
          have r3 : (k + 1) * 16 ≤ 140737488355328 := by omega
          have hd1 : decide (k + 1 = 0) = false := by simp
          have htk2 : ((l.take (k + 1)).map fun n => (n, n)).map spE = ((l.take k).map fun n => (n, n)).map spE ++ [.agg [ii t, ii t]] := by
            rw [List.take_add_one, ht]; simp [spE]
          have hRl : ((l.take k).map fun n => (n, n)).length = k := by simp; omega
          generalize hRR : (l.take k).map (fun n => (n, n)) = R at hRl ⊢
          repeat (first | (with_reducible (first | apply wA | apply wB | apply wC | apply wD | apply wE | apply wF | apply wG | apply wH | apply wI | apply wJ | apply wK | apply wL | apply wM | apply wN | apply wO | apply wP | apply wQ rfl | apply wR | apply wS | apply wT | apply wU)) | ((with_reducible (first | apply wV | apply wW | apply wX | (apply wY [] hTT cfKa_ok noM_ok mixed; (focus kernel_rfl)))); (focus (simp only [Tryz.f95, hkl', ht', hRl, e4, r2, r3, List.length_map, go_sem]; with_reducible rfl))) | (with_reducible refine wZ hTT cfKa_ok noM_ok ?_) | (with_reducible refine wa ?_; refine And.intro ?_ ?_; (focus kernel_rfl)))
          refine roundQ.b hkl (Back.keep [28, 27, 26, 8, 7] rfl) ⟨C ++ [.dead], ?_⟩
          rw [htk2, hRR, hd1]
          exact St_eq rfl (by simp)
        · have hkl' : ¬ (k : Int) < ls.length := by omega
          obtain rfl : k = ls.length := by omega
          have htk2 : l.take ls.length = l := List.take_of_length_le (by omega)
          rw [htk2, hn0]
          generalize (l.map fun n => (n, n)) = B1 at hB1 hst ⊢
          repeat (first | (with_reducible (first | apply wA | apply wB | apply wC | apply wD | apply wE | apply wF | apply wG | apply wH | apply wI | apply wJ | apply wK | apply wL | apply wM | apply wN | apply wO | apply wP | apply wQ rfl | apply wR | apply wS | apply wT | apply wU)) | ((with_reducible (first | apply wV | apply wW | apply wX | (apply wY [] hTT cfKa_ok noM_ok mixed; (focus kernel_rfl)))); (focus (simp only [Tryz.f95, hkl', List.length_map, go_sem]; with_reducible rfl))) | (with_reducible refine wZ hTT cfKa_ok noM_ok ?_) | (with_reducible refine wa ?_; refine And.intro ?_ ?_; (focus kernel_rfl)))
          rw [hll]
          refine RunQ.keep [41, 40, 39, 7] (by simp only [go_sem]; rfl) ?_
          refine RunQ.loop (fun k s' => s' = ⟨[(41, ii k), (40, ii ls.length), (39, .sl .a (l.map ii)), (7, .bp 3 0)], 71, [.var [ii s, .sl z (ls.map encLb)] false, .var [ii limb] false, .var [ii p.1, ii p.2] false, .var [.ms 4 ls.length] false, .row false 39 2 ((mmK k B1 l).map spE) false] ++ X2 :: (own ++ C)⟩) ls.length (by rw [mmK_zero]; rfl) ?_
          rintro k _ hk rfl
          by_cases hkl : k < ls.length
          · obtain ⟨a, ha⟩ : ∃ a, B1[k]? = some a := ⟨_, List.getElem?_eq_getElem (by omega)⟩
            obtain ⟨t, ht⟩ : ∃ t, l[k]? = some t := ⟨_, List.getElem?_eq_getElem (by omega)⟩
            have ht' : (l.map ii)[k]? = some (ii t) := map_get ht
            have hkl' : (k : Int) < ls.length := by omega
            have e4 : IntKind.i64.wrap ((k : Int) + 1) = ((k + 1 : Nat) : Int) := wrap_id (by omega) (by omega)
            have hlb : l.length = B1.length := by omega
            have hRl : (mmK k B1 l).length = ls.length := by rw [mmK_len hlb (by omega)]; exact hB1
            have hRg : ((mmK k B1 l).map spE)[k]? = some (.agg [ii a.1, ii a.2]) := map_get (mmK_get hlb ha)
            have hRs : ((mmK k B1 l).map spE).set k (.agg [ii (min a.1 t), ii (max a.2 t)]) = (mmK (k + 1) B1 l).map spE := by
              rw [← mmK_set hlb ha ht]; exact map_set_sp _ _ (mmS a t)
            generalize mmK k B1 l = R at hRl hRg hRs ⊢
            repeat (first | (with_reducible (first | apply wA | apply wB | apply wC | apply wD | apply wE | apply wF | apply wG | apply wH | apply wI | apply wJ | apply wK | apply wL | apply wM | apply wN | apply wO | apply wP | apply wQ rfl | apply wR | apply wS | apply wT | apply wU)) | ((with_reducible (first | apply wV | apply wW | apply wX | (apply wY [] hTT cfKa_ok noM_ok mixed; (focus kernel_rfl)))); (focus (simp only [Tryz.f95, hkl', ht', hRl, hRg, hRs, setElem2, e4, mn2, mx2, List.length_map, go_sem]; with_reducible rfl))) | (with_reducible refine wZ hTT cfKa_ok noM_ok ?_) | (with_reducible refine wa ?_; refine And.intro ?_ ?_; (focus kernel_rfl)))
            exact roundQ.b hkl (Back.keep [41, 40, 39, 7] rfl) rfl
          · have hkl' : ¬ (k : Int) < ls.length := by omega
            obtain rfl : k = ls.length := by omega
            have hmA : mmK ls.length B1 l = stepM B l := by
              have hlb : l.length = B1.length := by omega
              rw [← hB1, mmK_all hlb]; exact hst
            rw [hmA]
            repeat (first | (with_reducible (first | apply wA | apply wB | apply wC | apply wD | apply wE | apply wF | apply wG | apply wH | apply wI | apply wJ | apply wK | apply wL | apply wM | apply wN | apply wO | apply wP | apply wQ rfl | apply wR | apply wS | apply wT | apply wU)) | ((with_reducible (first | apply wV | apply wW | apply wX | (apply wY [] hTT cfKa_ok noM_ok mixed; (focus kernel_rfl)))); (focus (simp only [Tryz.f95, hkl', go_sem]; with_reducible rfl))) | (with_reducible refine wZ hTT cfKa_ok noM_ok ?_) | (with_reducible refine wa ?_; refine And.intro ?_ ?_; (focus kernel_rfl)))
            exact ⟨rfl, C, by rw [← hX2]; simp⟩
      · have hB1 : B.length = ls.length := hB.resolve_left hB0
        have hst : List.zipWith mmS B l = stepM B l := by unfold stepM firstB; rw [if_neg hB0]
        rw [hB1, hn0]
        obtain ⟨B1, hBB⟩ : ∃ B1, B1 = B := ⟨B, rfl⟩
        subst hBB
        repeat (first | (with_reducible (first | apply wA | apply wB | apply wC | apply wD | apply wE | apply wF | apply wG | apply wH | apply wI | apply wJ | apply wK | apply wL | apply wM | apply wN | apply wO | apply wP | apply wQ rfl | apply wR | apply wS | apply wT | apply wU)) | ((with_reducible (first | apply wV | apply wW | apply wX | (apply wY [] hTT cfKa_ok noM_ok mixed; (focus kernel_rfl)))); (focus (simp only [Tryz.f95, cfKa, c87, hd, hd3', hf, hpl, hpe, g0', h0l, h1l, hel, closedL_lbs, closedL_is, get_last, set_last, freeB, hB1, List.length_map, go_sem]; with_reducible rfl))) | (with_reducible refine wZ hTT cfKa_ok noM_ok ?_) | (with_reducible refine wa ?_; refine And.intro ?_ ?_; (focus kernel_rfl)))
        rw [hll]
        refine RunQ.keep [41, 40, 39, 7] (by simp only [go_sem]; rfl) ?_
        refine RunQ.loop (fun k s' => s' = ⟨[(41, ii k), (40, ii ls.length), (39, .sl .a (l.map ii)), (7, .bp 3 0)], 71, [.var [ii s, .sl z (ls.map encLb)] false, .var [ii limb] false, .var [ii p.1, ii p.2] false, .var [.ms 4 ls.length] false, .row false 39 2 ((mmK k B1 l).map spE) false] ++ X2 :: (own ++ [Box.dead])⟩) ls.length (by rw [mmK_zero]; rfl) ?_
        rintro k _ hk rfl
        by_cases hkl : k < ls.length
        · obtain ⟨a, ha⟩ : ∃ a, B1[k]? = some a := ⟨_, List.getElem?_eq_getElem (by omega)⟩
          obtain ⟨t, ht⟩ : ∃ t, l[k]? = some t := ⟨_, List.getElem?_eq_getElem (by omega)⟩
          have ht' : (l.map ii)[k]? = some (ii t) := map_get ht
          have hkl' : (k : Int) < ls.length := by omega
          have e4 : IntKind.i64.wrap ((k : Int) + 1) = ((k + 1 : Nat) : Int) := wrap_id (by omega) (by omega)
          have hlb : l.length = B1.length := by omega
          have hRl : (mmK k B1 l).length = ls.length := by rw [mmK_len hlb (by omega)]; exact hB1
          have hRg : ((mmK k B1 l).map spE)[k]? = some (.agg [ii a.1, ii a.2]) := map_get (mmK_get hlb ha)
          have hRs : ((mmK k B1 l).map spE).set k (.agg [ii (min a.1 t), ii (max a.2 t)]) = (mmK (k + 1) B1 l).map spE := by
            rw [← mmK_set hlb ha ht]; exact map_set_sp _ _ (mmS a t)
          generalize mmK k B1 l = R at hRl hRg hRs ⊢
          repeat (first | (with_reducible (first | apply wA | apply wB | apply wC | apply wD | apply wE | apply wF | apply wG | apply wH | apply wI | apply wJ | apply wK | apply wL | apply wM | apply wN | apply wO | apply wP | apply wQ rfl | apply wR | apply wS | apply wT | apply wU)) | ((with_reducible (first | apply wV | apply wW | apply wX | (apply wY [] hTT cfKa_ok noM_ok mixed; (focus kernel_rfl)))); (focus (simp only [Tryz.f95, hkl', ht', hRl, hRg, hRs, setElem2, e4, mn2, mx2, List.length_map, go_sem]; with_reducible rfl))) | (with_reducible refine wZ hTT cfKa_ok noM_ok ?_) | (with_reducible refine wa ?_; refine And.intro ?_ ?_; (focus kernel_rfl)))
          exact roundQ.b hkl (Back.keep [41, 40, 39, 7] rfl) rfl
        · have hkl' : ¬ (k : Int) < ls.length := by omega
          obtain rfl : k = ls.length := by omega
          have hmA : mmK ls.length B1 l = stepM B1 l := by
            have hlb : l.length = B1.length := by omega
            rw [← hB1, mmK_all hlb]; exact hst
          rw [hmA]
          repeat (first | (with_reducible (first | apply wA | apply wB | apply wC | apply wD | apply wE | apply wF | apply wG | apply wH | apply wI | apply wJ | apply wK | apply wL | apply wM | apply wN | apply wO | apply wP | apply wQ rfl | apply wR | apply wS | apply wT | apply wU)) | ((with_reducible (first | apply wV | apply wW | apply wX | (apply wY [] hTT cfKa_ok noM_ok mixed; (focus kernel_rfl)))); (focus (simp only [Tryz.f95, hkl', go_sem]; with_reducible rfl))) | (with_reducible refine wZ hTT cfKa_ok noM_ok ?_) | (with_reducible refine wa ?_; refine And.intro ?_ ?_; (focus kernel_rfl)))
          exact ⟨rfl, [.dead], by rw [← hX2]; simp⟩
  · rintro st rfl
    rw [List.length_map, List.take_length]
    have hB := (bnd_len (T.filter (atG s ls limb p)) fun l h => (pose_at (hPm l (List.mem_filter.1 h).1)).1).2
    cases hM : T.filter (atG s ls limb p) with
    | nil =>
      have hbn : bndG [] = [] := rfl
      rw [hbn]
      repeat (first | (with_reducible (first | apply wA | apply wB | apply wC | apply wD | apply wE | apply wF | apply wG | apply wH | apply wI | apply wJ | apply wK | apply wL | apply wM | apply wN | apply wO | apply wP | apply wQ rfl | apply wR | apply wS | apply wT | apply wU)) | ((with_reducible (first | apply wV | apply wW | apply wX | (apply wY [] hTT cfKa_ok noM_ok mixed; (focus kernel_rfl)))); (focus (simp only [Tryz.f95, List.length_nil, List.map_nil, TyD.ifc, go_sem]; with_reducible rfl))) | (with_reducible refine wZ hTT cfKa_ok noM_ok ?_) | (with_reducible refine wa ?_; refine And.intro ?_ ?_; (focus kernel_rfl)))
      refine RegQ.stop (v := .iface 192 (.agg [ii limb])) (by simp only [go_sem]; rfl) ?_
      repeat (first | (with_reducible (first | apply wA | apply wB | apply wC | apply wD | apply wE | apply wF | apply wG | apply wH | apply wI | apply wJ | apply wK | apply wL | apply wM | apply wN | apply wO | apply wP | apply wQ rfl | apply wR | apply wS | apply wT | apply wU)) | ((with_reducible (first | apply wV | apply wW | apply wX | (apply wY [] hTT cfKa_ok noM_ok mixed; (focus kernel_rfl)))); (focus (simp only [Tryz.f95, go_sem]; with_reducible rfl))) | (with_reducible refine wZ hTT cfKa_ok noM_ok ?_) | (with_reducible refine wa ?_; refine And.intro ?_ ?_; (focus kernel_rfl)))
      exact ⟨rfl, rfl⟩
    | cons x M =>
      rw [hM] at hB
      have hB := hB (by simp)
      generalize hBB : bndG (x :: M) = B at hB ⊢
      have hn0 : decide (ls.length = 0) = false := by simp [hne]
      rw [hB, hn0]
      repeat (first | (with_reducible (first | apply wA | apply wB | apply wC | apply wD | apply wE | apply wF | apply wG | apply wH | apply wI | apply wJ | apply wK | apply wL | apply wM | apply wN | apply wO | apply wP | apply wQ rfl | apply wR | apply wS | apply wT | apply wU)) | ((with_reducible (first | apply wV | apply wW | apply wX | (apply wY [] hTT cfKa_ok noM_ok mixed; (focus kernel_rfl)))); (focus (simp only [Tryz.f95, hB, List.length_map, go_sem]; with_reducible rfl))) | (with_reducible refine wZ hTT cfKa_ok noM_ok ?_) | (with_reducible refine wa ?_; refine And.intro ?_ ?_; (focus kernel_rfl)))
      refine ⟨rfl, rfl, _, rfl, ?_⟩
      rw [hBB]
      exact leave_row (z := false) (id := 4) rfl (closedL_sp _) (by simp [hB])
end Go.Pv
