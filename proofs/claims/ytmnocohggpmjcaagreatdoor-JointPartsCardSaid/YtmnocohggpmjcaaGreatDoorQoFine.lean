/- Contracts: all fine poses, one after the other. -/
import Derived.Test.YtmnocohggpmjcaaGreatDoorQnC
import Derived.Test.YtmnocohggpmjcaaGreatDoorQmLists
set_option linter.all false
namespace Go.Pv
open Go Go.RowKit Go.Proofs
set_option maxRecDepth 10000
set_option maxHeartbeats 4000000
/-- The cells of a figure on its stage. -/
abbrev stgC (s : Int) (z zh zr : Z) (ls : List Lb) (g : Stg) : List PV := [ii s, .sl z (ls.map encLb), ii g.e.a, ii g.e.b, ii g.e.c, ii g.e.d, .sl zh (g.hs.map encFld), .sl zr (g.rs.map ii)]
theorem closedL_flds (l : List Fld) : closedL (l.map encFld) = true := closedL_map (fun _ => rfl) l
theorem closed_stgC (s : Int) (z zh zr : Z) (ls : List Lb) (g : Stg) : closedL (stgC s z zh zr ls g) = true := by
  simp [closedL, PV.closed, closedL_flds, closedL_lbs, closedL_is]
theorem frz_fnv (f : Fn) (cs : List PV) (hc : closedL cs = true) : leaveC0 0 (.fn f [] [.bp 0 0]) [.var cs false] = (.fn f [] [.ip cs], []) := by
  refine leaveF ?_ (by simp [PV.closed, closedL, hc])
  have h1 : (PV.fn f [] [.bp 0 0]).closed = false := rfl
  have h2 : (PV.bp 0 0).closed = false := rfl
  unfold frzX
  rw [if_neg (by rw [h1]; simp)]
  simp only [frz1, frzC, frzL]
  unfold frzX
  rw [if_neg (by rw [h2]; simp)]
  simp [frz1, frzC, frzL_closed (n := 5) cs _ hc]
theorem fines_108 (s : Int) (z zh zr : Z) (ls : List Lb) (g : Stg) : CallOk Tryz.prog 108 [.agg (stgC s z zh zr ls g)] [] (.ret (.fn (.func 147) [] [.ip (stgC s z zh zr ls g)])) [] := by
  refine CallOk.ofF hTT Tryz.func108 rfl rfl ?_
  repeat (first | (with_reducible (first | apply wA | apply wB | apply wC | apply wD | apply wE | apply wF | apply wG | apply wH | apply wI | apply wJ | apply wK | apply wL | apply wM | apply wN | apply wO | apply wP | apply wQ rfl | apply wR | apply wS | apply wT | apply wU)) | ((with_reducible (first | apply wV | apply wW | apply wX | (apply wY [] hTT cf0_ok noM_ok mixed; (focus kernel_rfl)))); (focus (simp only [Tryz.f108, notYield, go_sem]; with_reducible rfl))) | (with_reducible refine wZ hTT cf0_ok noM_ok ?_) | (with_reducible refine wa ?_; refine And.intro ?_ ?_; (focus kernel_rfl)))
  exact ⟨rfl, rfl, _, rfl, frz_fnv _ _ (closed_stgC _ _ _ _ _ _)⟩
def decSt : List PV → Option (Int × Z × Z × Z × List Lb × Stg)
  | [.int .i64 s, .sl z es, .int .i64 a, .int .i64 b, .int .i64 c, .int .i64 d, .sl zh hs, .sl zr rs] => match decL decLb es, decL decFld hs, decL decI rs with
    | some ls, some hs, some rs => some (s, z, zh, zr, ls, ⟨⟨a, b, c, d⟩, hs, rs⟩)
    | _, _, _ => none
  | _ => none
theorem decSt_enc (s : Int) (z zh zr : Z) (ls : List Lb) (g : Stg) : decSt (stgC s z zh zr ls g) = some (s, z, zh, zr, ls, g) := by
  simp [decSt, decLbs, decFlds, decIs]
theorem decSt_inv {cs : List PV} {s : Int} {z zh zr : Z} {ls : List Lb} {g : Stg} (h : decSt cs = some (s, z, zh, zr, ls, g)) : cs = stgC s z zh zr ls g := by
  unfold decSt at h
  split at h <;> try (cases h; done)
  split at h <;> cases h
  rename_i h2 h3 h1
  obtain rfl := decL_inv decLb_inv h1
  obtain rfl := decL_inv decFld_inv h2
  obtain rfl := decL_inv decI_inv h3
  rfl
def c108 : List PV → List Box → Option (PRes × List Box)
  | [.agg cs], sg => match decSt cs with
    | some (s, z, zh, zr, ls, g) => some (.ret (.fn (.func 147) [] [.ip (stgC s z zh zr ls g)]), sg)
    | none => none
  | _, _ => none
theorem c108_ok : ConOk Tryz.prog 108 c108 := ConOk.of0 (ent Tryz.func108 rfl) fun args sg r sg' h => by
  unfold c108 at h
  split at h <;> try (cases h; done)
  split at h <;> cases h
  rename_i h1
  obtain rfl := decSt_inv h1
  exact ⟨_, rfl, rfl, by rw [ltBL_cons, ltB_agg, ltBL_of_closed 0 _ (closed_stgC _ _ _ _ _ _)]; rfl, fines_108 _ _ _ _ _ _⟩
def c90 : List PV → List Box → Option (PRes × List Box)
  | [v], sg => match decFig v with
    | some (_, ls) => if ls ≠ [] ∧ ls.length ≤ 1000 then some (.ret (.fn (.func 166) [] [spP .a (spansG ls)]), sg) else none
    | none => none
  | _, _ => none
theorem c90_ok : ConOk Tryz.prog 90 c90 := ConOk.of0 (ent Tryz.func90 rfl) fun args sg r sg' h => by
  unfold c90 at h
  split at h <;> try (cases h; done)
  split at h <;> try (cases h; done)
  rename_i h1
  split at h <;> cases h
  rename_i hc
  obtain ⟨z, rfl, hz⟩ := decFig_inv h1
  exact ⟨_, rfl, rfl, by rw [ltBL_cons, ltB_fig]; rfl, poses_90 _ _ _ (fun e => hc.1 (hz e)) hc.1 hc.2⟩
/-- All poses; all fine poses. -/
def posesG (ls : List Lb) : List (List Int) := exts (spansG ls) []
def finesG (s : Int) (ls : List Lb) (g : Stg) : List (List Int) := (posesG ls).filter (finG s ls g)
theorem mem_rng {lo hi x : Int} : x ∈ rng lo hi ↔ lo ≤ x ∧ x ≤ hi := by
  unfold rng
  simp only [List.mem_map, List.mem_range]
  constructor
  · rintro ⟨k, hk, rfl⟩; omega
  · intro h; exact ⟨(x - lo).toNat, by omega, by omega⟩
theorem mem_exts : ∀ (ls : List Lb) (now l : List Int), l ∈ exts (spansG ls) now ↔ ∃ q, l = now ++ q ∧ poseG ls q = true
  | [], now, l => by
    show l ∈ [now] ↔ _
    rw [List.mem_singleton]
    constructor
    · rintro rfl; exact ⟨[], by simp, rfl⟩
    · rintro ⟨q, rfl, h⟩
      cases q with
      | nil => simp
      | cons a q => cases h
  | x :: r, now, l => by
    show l ∈ (rng x.lo x.hi).flatMap (fun n => exts (spansG r) (now ++ [n])) ↔ _
    rw [List.mem_flatMap]
    constructor
    · rintro ⟨n, hn, hl⟩
      obtain ⟨q, rfl, hq⟩ := (mem_exts r _ _).1 hl
      refine ⟨n :: q, by simp, ?_⟩
      have := mem_rng.1 hn
      simp [poseG, inB, hq]; omega
    · rintro ⟨q, rfl, hq⟩
      cases q with
      | nil => cases hq
      | cons n q =>
        simp [poseG, inB] at hq
        exact ⟨n, mem_rng.2 (by omega), (mem_exts r _ _).2 ⟨q, by simp, hq.2⟩⟩
theorem mem_poses {ls : List Lb} {l : List Int} : l ∈ posesG ls ↔ poseG ls l = true := by
  unfold posesG
  rw [mem_exts]
  simp
theorem pvL_z (l : List Int) : ∃ z, pvL l = .sl z (l.map ii) ∧ zOk z (l.map ii) = true := by
  refine ⟨_, rfl, ?_⟩
  cases l <;> rfl
def cfF1 : CallF := cfAdd (cfAdd cf0 90 c90) 97 c97
theorem cfF1_ok : CallFOk Tryz.prog cfF1 := cfAdd_ok (cfAdd_ok cf0_ok c90_ok) c97_ok
theorem filter_drop {α : Type} {L : List α} {i : Nat} {x : α} (h : L[i]? = some x) (p : α → Bool) : (L.drop i).filter p = if p x = true then x :: (L.drop (i + 1)).filter p else (L.drop (i + 1)).filter p := by
  rw [drop_get h, List.filter_cons]
end Go.Pv
namespace Go.Pv
open Go Go.RowKit Go.Proofs
set_option maxRecDepth 10000
set_option maxHeartbeats 4000000
theorem spans_in {s : Int} {ls : List Lb} (hf : figB s ls = true) : ∀ x ∈ spansG ls, -1000 ≤ x.1 ∧ x.1 ≤ 1000 ∧ -1000 ≤ x.2 ∧ x.2 ≤ 1000 := by
  intro x hx
  obtain ⟨_, _, _, _, hl⟩ := fig_limbs hf
  obtain ⟨y, hy, rfl⟩ := List.mem_map.1 hx
  obtain ⟨i, hi, rfl⟩ := List.mem_iff_getElem.1 hy
  have := hl i _ (List.getElem?_eq_getElem hi)
  simp [lbB, inB] at this
  simp only
  omega
theorem fines_147 (s : Int) (z zh zr : Z) (ls : List Lb) (g : Stg) (hzo : zOk z (ls.map encLb) = true) (hh : zOk zh (g.hs.map encFld) = true) (hr : zOk zr (g.rs.map ii) = true) (hf : figB s ls = true) (hg : stgG ls g = true) :
    IterOk Tryz.prog 147 (fun id => [.yl id, .ip (stgC s z zh zr ls g)]) ((finesG s ls g).map fun l => [pvL l]) := by
  intro id low b low' h0 hid h
  obtain ⟨hl', h0'⟩ := foldR_len h h0
  have hsl2 : SameLoops low low' := by
    have := foldR_same (own := []) h (fun x hx => by cases hx)
    simpa using this
  refine ⟨.tuple [], ?_, hsl2⟩
  refine CallOk.ofB hTT Tryz.func147 rfl rfl ?_ hl' (fun x hx => by have := h0' x hx; rw [hl'] at this; simpa using this) (.tuple (fun c hc => by cases hc))
  have hd := decFig_enc s z ls hzo
  have hl := fig_len hf
  have hs : ls.length ≤ maxLen := by unfold maxLen; omega
  have hs2 : ls.length ≤ 1000 := by omega
  have hne : ls ≠ [] := fun e => by rw [e] at hl; simp at hl
  obtain ⟨h0f, h1f, r0, r1, H⟩ := stgIn (s := s) hg
  have hzh : zh ≠ .n := fun e => by subst e; rw [H.hs] at hh; cases hh
  have hzr : zr ≠ .n := fun e => by subst e; rw [H.rs] at hr; cases hr
  have hm0 := H.l0.1
  have hm1 := H.l1.1
  have hKc := closed_stgC s z zh zr ls g
  have hK : stgC s z zh zr ls g = [ii s, .sl z (ls.map encLb), ii g.e.a, ii g.e.b, ii g.e.c, ii g.e.d, .sl zh [.agg [ii h0f.a, ii h0f.b, ii h0f.c, ii h0f.d], .agg [ii h1f.a, ii h1f.b, ii h1f.c, ii h1f.d]], .sl zr [ii r0, ii r1]] := by
    unfold stgC; rw [H.hs, H.rs]; rfl
  rw [hK] at hKc ⊢
  have hspc : (spP .a (spansG ls)).closed = true := by
    show closedL [.sl .a ((spansG ls).map spE)] = true
    simp [closedL, PV.closed, closedL_sp]
  have hdf0 : decFld (.agg [ii h0f.a, ii h0f.b, ii h0f.c, ii h0f.d]) = some h0f := rfl
  have hdf1 : decFld (.agg [ii h1f.a, ii h1f.b, ii h1f.c, ii h1f.d]) = some h1f := rfl
  have q0 : ∀ B : List Box, (low ++ B)[low.length]? = B[0]? := app_get0 low
  have q1 : ∀ (B : List Box) (x : Box), (low ++ B).set low.length x = low ++ B.set 0 x := app_set0 low
  repeat (first | (with_reducible (first | apply wA | apply wB | apply wC | apply wD | apply wE | apply wF | apply wG | apply wH | apply wI | apply wJ | apply wK | apply wL | apply wM | apply wN | apply wO | apply wP | apply wQ rfl | apply wR | apply wS | apply wT | apply wU)) | ((with_reducible (first | apply wV | apply wW | apply wX | (apply wY [] hTT cfF1_ok noM_ok mixed; (focus kernel_rfl)))); (focus (simp only [Tryz.f147, cfF1, c90, hd, hne, hs2, q0, q1, notYield, go_sem]; with_reducible rfl))) | (with_reducible refine wZ hTT cfF1_ok noM_ok ?_) | (with_reducible refine wa ?_; refine And.intro ?_ ?_; (focus kernel_rfl)))
  refine RunQ.keep [6, 1, 2] (by simp only [go_sem]; rfl) ?_
  have htm : ∀ t v, getT [(6, .fn (.func 166) [] [spP .a (spansG ls)]), (2, .bp low.length 0), (1, .ip [ii s, .sl z (ls.map encLb), ii g.e.a, ii g.e.b, ii g.e.c, ii g.e.d, .sl zh [.agg [ii h0f.a, ii h0f.b, ii h0f.c, ii h0f.d], .agg [ii h1f.a, ii h1f.b, ii h1f.c, ii h1f.d]], .sl zr [ii r0, ii r1]])] t = some v → Pv.Lt (low.length + 1) v := by
    intro t v hv
    obtain ⟨p, hp, rfl⟩ := getT_mem hv
    simp only [List.mem_cons, List.not_mem_nil, or_false] at hp
    rcases hp with rfl | rfl | rfl
    · refine .fn (fun c hc => by cases hc) fun c hc => ?_
      simp only [List.mem_cons, List.not_mem_nil, or_false] at hc
      subst hc
      exact (lt_of_closed _ hspc).mono (by omega)
    · show Pv.Lt (low.length + 1) (.bp low.length 0)
      exact .bp (by omega)
    · exact (lt_of_closed _ (show (PV.ip _).closed = true from hKc)).mono (by omega)
  have hv1 : ∀ k : Nat, low.length ≤ k → OwnOk k [Box.var [.yl id] false] := fun k hk x hx => by
    simp only [List.mem_cons, List.not_mem_nil, or_false] at hx
    subst hx
    intro c hc
    simp at hc; subst hc
    exact .yl (by simp; omega)
  refine RunQ.range (L := (posesG ls).map fun l => [pvL l]) (first := []) (cap := [spP .a (spansG ls)]) rfl (ent Tryz.func166 rfl) (lists_166 .a (spansG ls) (by simp) (spans_in hf) (by simp [spansG]; omega)) ?_ ?_ (fun t v hv => (htm t v hv).mono (by simp))
    (fun i st => ∃ lw : List Box, lw.length = low.length ∧ OwnOk 0 lw ∧ SameLoops (low ++ [.var [.yl id] false]) (lw ++ [.var [.yl id] false]) ∧ FoldR (YR Tryz.prog id) ((((posesG ls).drop i).filter (finG s ls g)).map fun l => [pvL l]) lw b low' ∧ st = lw ++ [.var [.yl id] false])
    ⟨low, rfl, h0, SameLoops.refl _, h, rfl⟩ ?_ ?_ ?_
  · intro e he
    obtain ⟨l, _, rfl⟩ := List.mem_map.1 he
    rfl
  · intro p hp
    have hp7 : p = 7 := by simpa using hp
    subst hp7
    show (7 : Nat) < 17
    decide
  · rintro i st ⟨lw, e1, e2, e3, e4, rfl⟩
    refine ⟨by simp [e1], fun x hx => ?_, e3⟩
    have := own_lt e2 (hv1 lw.length (by omega)) x hx
    simpa [e1] using this.mono (n := (low ++ [Box.var [.yl id] false]).length + 1) (by simp [e1])
  · rintro i e st he ⟨lw, e1, e2, e3, e4, rfl⟩
    obtain ⟨l, hl2, rfl⟩ : ∃ l, (posesG ls)[i]? = some l ∧ e = [pvL l] := by
      rw [List.getElem?_map, Option.map_eq_some_iff] at he
      obtain ⟨l, a, rfl⟩ := he
      exact ⟨l, a, rfl⟩
    have hp : poseG ls l = true := mem_poses.1 (List.mem_of_getElem? hl2)
    obtain ⟨zn, hzn, hzk⟩ := pvL_z l
    have hd3 := decIs1_enc hzk
    have g0 := ends_get hf hp H.l0
    have g1 := ends_get hf hp H.l1
    have hel : (ends s ls l).length ≤ maxLen := by rw [ends_ln hf hp]; exact hs
    have hfg := finG_in H l
    rw [filter_drop hl2] at e4
    generalize hp0 : (ends s ls l).getD r0.toNat (0, 0) = p0 at g0 hfg
    generalize hp1 : (ends s ls l).getD r1.toNat (0, 0) = p1 at g1 hfg
    have hst : (lw ++ [Box.var [.yl id] false]).length + 1 = lw.length + 2 := by simp
    rw [hzn]
    have hown : ∀ (st : LoopState) (p : Option Code) (tm : List (Nat × PV)) (ps : List Nat) (as0 bd : Code) (own : List Box), (∀ t v, getT tm t = some v → Pv.Lt (low.length + 1) v) → OwnOk ((lw ++ [Box.var [.yl id] false]).length + 1) own → OwnOk lw.length (Box.var [.yl id] false :: .loop (lrOf tm 17 ps as0 bd st p) :: own) := by
      intro st p tm ps as0 bd own htm ho x hx
      have el : lw.length + (Box.var [.yl id] false :: .loop (lrOf tm 17 ps as0 bd st p) :: own).length = lw.length + 2 + own.length := by simp; omega
      rw [el]
      rcases List.mem_cons.1 hx with rfl | hx
      · intro c hc
        simp at hc; subst hc
        exact .yl (by omega)
      rcases List.mem_cons.1 hx with rfl | hx
      · exact fun t v hv => (htm t v hv).mono (by omega)
      · have := ho x hx
        rw [hst] at this
        exact this
    cases hfi : finG s ls g l
    · rw [hfi] at e4 hfg
      refine .next (lw ++ [.var [.yl id] false]) ⟨lw, e1, e2, e3, by simpa using e4, rfl⟩ fun own ho => ?_
      unfold YRun
      generalize hR : lw ++ [Box.var [.yl id] false] ++ Box.loop _ :: own = S1
      repeat (first | (with_reducible (first | apply wA | apply wB | apply wC | apply wD | apply wE | apply wF | apply wG | apply wH | apply wI | apply wJ | apply wK | apply wL | apply wM | apply wN | apply wO | apply wP | apply wQ rfl | apply wR | apply wS | apply wT | apply wU)) | ((with_reducible (first | apply wV | apply wW | apply wX | (apply wY [] hTT cfF1_ok noM_ok mixed; (focus kernel_rfl)))); (focus (simp only [Tryz.f147, putPs, List.toList_toArray, go_sem]; with_reducible rfl))) | (with_reducible refine wZ hTT cfF1_ok noM_ok ?_) | (with_reducible refine wa ?_; refine And.intro ?_ ?_; (focus kernel_rfl)))
      refine ⟨rfl, own, hR.symm, ?_⟩
      dsimp only
      generalize hS : lw ++ [Box.var [.yl id] false] ++ Box.loop _ :: own = S2
      repeat (first | (with_reducible (first | apply wA | apply wB | apply wC | apply wD | apply wE | apply wF | apply wG | apply wH | apply wI | apply wJ | apply wK | apply wL | apply wM | apply wN | apply wO | apply wP | apply wQ rfl | apply wR | apply wS | apply wT | apply wU)) | ((with_reducible (first | apply wV | apply wW | apply wX | (apply wY [] hTT cfF1_ok noM_ok mixed; (focus kernel_rfl)))); (focus (simp only [Tryz.f147, cfF1, c97, hd, hd3, hf, hp, hm0, hm1, hzh, hzr, hel, hdf0, hdf1, g0, g1, hfg.symm, go_sem]; with_reducible rfl))) | (with_reducible refine wZ hTT cfF1_ok noM_ok ?_) | (with_reducible refine wa ?_; refine And.intro ?_ ?_; (focus kernel_rfl)))
      refine ⟨rfl, [], ?_⟩
      rw [← hS]; simp
    · rw [hfi, if_pos rfl, List.map_cons, hzn] at e4
      rw [hfi] at hfg
      cases e4 with
      | stop hy =>
        have hlt1 := own_lt h0' (hv1 low'.length (by omega))
        refine .ret (low' ++ [.var [.yl id] false]) (by simp [e1, hl']) (fun x hx => (hlt1 x hx).mono (by simp; omega)) (foldR_same (L := [[.sl zn (l.map ii)]]) (.stop hy) (hv1 lw.length (by omega))) ?_ fun own ho => ?_
        · repeat (first | (with_reducible (first | apply wA | apply wB | apply wC | apply wD | apply wE | apply wF | apply wG | apply wH | apply wI | apply wJ | apply wK | apply wL | apply wM | apply wN | apply wO | apply wP | apply wQ rfl | apply wR | apply wS | apply wT | apply wU)) | ((with_reducible (first | apply wV | apply wW | apply wX | (apply wY [] hTT cfF1_ok noM_ok mixed; (focus kernel_rfl)))); (focus (simp only [Tryz.f147, go_sem]; with_reducible rfl))) | (with_reducible refine wZ hTT cfF1_ok noM_ok ?_) | (with_reducible refine wa ?_; refine And.intro ?_ ?_; (focus kernel_rfl)))
          exact ⟨rfl, by simpa using hsl2.app [.var [.yl id] false, .gone] rfl, rfl, [.var [.yl id] false, .gone], by simp⟩
        · unfold YRun
          generalize hR : lw ++ [Box.var [.yl id] false] ++ Box.loop _ :: own = S1
          repeat (first | (with_reducible (first | apply wA | apply wB | apply wC | apply wD | apply wE | apply wF | apply wG | apply wH | apply wI | apply wJ | apply wK | apply wL | apply wM | apply wN | apply wO | apply wP | apply wQ rfl | apply wR | apply wS | apply wT | apply wU)) | ((with_reducible (first | apply wV | apply wW | apply wX | (apply wY [] hTT cfF1_ok noM_ok mixed; (focus kernel_rfl)))); (focus (simp only [Tryz.f147, putPs, List.toList_toArray, go_sem]; with_reducible rfl))) | (with_reducible refine wZ hTT cfF1_ok noM_ok ?_) | (with_reducible refine wa ?_; refine And.intro ?_ ?_; (focus kernel_rfl)))
          refine ⟨rfl, own, hR.symm, ?_⟩
          dsimp only
          rw [List.append_assoc]
          generalize hO : [Box.var [.yl id] false] ++ Box.loop _ :: own = own2
          have ho2 : OwnOk lw.length own2 := by rw [← hO]; exact hown _ _ _ _ _ _ own htm ho
          have hO0 : own2[0]? = some (.var [.yl id] false) := by rw [← hO]; rfl
          obtain ⟨hyy, hss⟩ := hy.2.2 own2 ho2
          generalize hS : lw ++ own2 = S2 at hyy hss ⊢
          have gY : S2[low.length]? = some (.var [.yl id] false) := by rw [← hS, ← e1, app_get0]; exact hO0
          repeat (first | (with_reducible (first | apply RegQY.nil | apply wB | apply wC | apply wD | apply wE | apply wF | apply wG | apply wH | apply wI | apply wJ | apply wK | apply wL | apply wM | apply wN | apply wO | apply wP | apply wQ rfl | apply wR | apply wS | apply wT | apply wU)) | ((with_reducible (first | apply RegQY.step | apply wW | apply wX | (apply wY [] hTT cfF1_ok noM_ok mixed; (focus kernel_rfl)))); (focus (simp only [Tryz.f147, cfF1, c97, hd, hd3, hf, hp, hm0, hm1, hzh, hzr, hel, hdf0, hdf1, g0, g1, hfg.symm, gY, yfOne, go_sem]; with_reducible rfl))) | (with_reducible refine RunQ.regY hTT cfF1_ok (yfOne_ok hyy hss) noM_ok ?_) | (with_reducible refine wa ?_; refine And.intro ?_ ?_; (focus kernel_rfl)))
          exact ⟨rfl, [], by rw [← hO]; simp⟩
      | next hy k =>
        rename_i low1
        obtain ⟨l1, l2⟩ := foldR_len (L := [[.sl zn (l.map ii)]]) (.next hy (.nil _)) e2
        refine .next (low1 ++ [.var [.yl id] false]) ⟨low1, by omega, l2, e3.trans (foldR_same (L := [[.sl zn (l.map ii)]]) (.next hy (.nil _)) (hv1 lw.length (by omega))), k, rfl⟩ fun own ho => ?_
        unfold YRun
        generalize hR : lw ++ [Box.var [.yl id] false] ++ Box.loop _ :: own = S1
        repeat (first | (with_reducible (first | apply wA | apply wB | apply wC | apply wD | apply wE | apply wF | apply wG | apply wH | apply wI | apply wJ | apply wK | apply wL | apply wM | apply wN | apply wO | apply wP | apply wQ rfl | apply wR | apply wS | apply wT | apply wU)) | ((with_reducible (first | apply wV | apply wW | apply wX | (apply wY [] hTT cfF1_ok noM_ok mixed; (focus kernel_rfl)))); (focus (simp only [Tryz.f147, putPs, List.toList_toArray, go_sem]; with_reducible rfl))) | (with_reducible refine wZ hTT cfF1_ok noM_ok ?_) | (with_reducible refine wa ?_; refine And.intro ?_ ?_; (focus kernel_rfl)))
        refine ⟨rfl, own, hR.symm, ?_⟩
        dsimp only
        rw [List.append_assoc]
        generalize hO : [Box.var [.yl id] false] ++ Box.loop _ :: own = own2
        have ho2 : OwnOk lw.length own2 := by rw [← hO]; exact hown _ _ _ _ _ _ own htm ho
        have hO0 : own2[0]? = some (.var [.yl id] false) := by rw [← hO]; rfl
        obtain ⟨hyy, hss⟩ := hy.2.2 own2 ho2
        generalize hS : lw ++ own2 = S2 at hyy hss ⊢
        have gY : S2[low.length]? = some (.var [.yl id] false) := by rw [← hS, ← e1, app_get0]; exact hO0
        repeat (first | (with_reducible (first | apply RegQY.nil | apply wB | apply wC | apply wD | apply wE | apply wF | apply wG | apply wH | apply wI | apply wJ | apply wK | apply wL | apply wM | apply wN | apply wO | apply wP | apply wQ rfl | apply wR | apply wS | apply wT | apply wU)) | ((with_reducible (first | apply RegQY.step | apply wW | apply wX | (apply wY [] hTT cfF1_ok noM_ok mixed; (focus kernel_rfl)))); (focus (simp only [Tryz.f147, cfF1, c97, hd, hd3, hf, hp, hm0, hm1, hzh, hzr, hel, hdf0, hdf1, g0, g1, hfg.symm, gY, yfOne, go_sem]; with_reducible rfl))) | (with_reducible refine RunQ.regY hTT cfF1_ok (yfOne_ok hyy hss) noM_ok ?_) | (with_reducible refine wa ?_; refine And.intro ?_ ?_; (focus kernel_rfl)))
        exact ⟨rfl, [], by rw [← hO]; simp⟩
  · rintro st ⟨lw, e1, e2, e3, e4, rfl⟩
    rw [List.length_map, List.drop_length] at e4
    cases e4
    repeat (first | (with_reducible (first | apply wA | apply wB | apply wC | apply wD | apply wE | apply wF | apply wG | apply wH | apply wI | apply wJ | apply wK | apply wL | apply wM | apply wN | apply wO | apply wP | apply wQ rfl | apply wR | apply wS | apply wT | apply wU)) | ((with_reducible (first | apply wV | apply wW | apply wX | (apply wY [] hTT cfF1_ok noM_ok mixed; (focus kernel_rfl)))); (focus (simp only [Tryz.f147, go_sem]; with_reducible rfl))) | (with_reducible refine wZ hTT cfF1_ok noM_ok ?_) | (with_reducible refine wa ?_; refine And.intro ?_ ?_; (focus kernel_rfl)))
    exact ⟨rfl, by simpa using hsl2.app [.var [.yl id] false, .gone] rfl, rfl, [.var [.yl id] false, .gone], by simp⟩
end Go.Pv
namespace Go.Pv
open Go Go.RowKit Go.Proofs
set_option maxRecDepth 10000
set_option maxHeartbeats 4000000
theorem flatMap_le {α β : Type} (f : α → List β) (m : Nat) : ∀ (l : List α), (∀ a ∈ l, (f a).length ≤ m) → (l.flatMap f).length ≤ l.length * m
  | [], _ => by simp
  | a :: l, h => by
    rw [List.flatMap_cons, List.length_append, List.length_cons, Nat.succ_mul]
    have := h a (by simp)
    have := flatMap_le f m l fun x hx => h x (by simp [hx])
    omega
theorem exts_len (k : Nat) : ∀ (sp : List (Int × Int)) (now : List Int), (∀ x ∈ sp, (x.2 + 1 - x.1).toNat ≤ k) → (exts sp now).length ≤ k ^ sp.length
  | [], now, _ => by simp [exts]
  | x :: r, now, h => by
    have h1 := h x (by simp)
    have h2 := flatMap_le (fun n => exts r (now ++ [n])) (k ^ r.length) (rng x.1 x.2) fun n _ => exts_len k r _ fun y hy => h y (by simp [hy])
    have h3 : (rng x.1 x.2).length ≤ k := by simpa [rng] using h1
    show ((rng x.1 x.2).flatMap fun n => exts r (now ++ [n])).length ≤ k ^ (r.length + 1)
    rw [Nat.pow_succ, Nat.mul_comm]
    exact Nat.le_trans h2 (Nat.mul_le_mul_right _ h3)
theorem poses_len {s : Int} {ls : List Lb} (hf : figB s ls = true) : (posesG ls).length ≤ 59049 := by
  obtain ⟨_, _, _, h5, hl⟩ := fig_limbs hf
  have := exts_len 9 (spansG ls) [] (fun x hx => by
    obtain ⟨y, hy, rfl⟩ := List.mem_map.1 hx
    obtain ⟨i, hi, rfl⟩ := List.mem_iff_getElem.1 hy
    have := hl i _ (List.getElem?_eq_getElem hi)
    simp [lbB, inB] at this
    simp only
    omega)
  have h2 : (spansG ls).length ≤ 5 := by simp [spansG]; omega
  exact Nat.le_trans this (Nat.le_trans (Nat.pow_le_pow_right (by decide) h2) (by decide))
theorem fines_len {s : Int} {ls : List Lb} (hf : figB s ls = true) (g : Stg) : (finesG s ls g).length ≤ 59049 :=
  Nat.le_trans (List.length_filter_le _ _) (poses_len hf)
/-- What First returns. -/
def firstR (s : Int) (ls : List Lb) (g : Stg) : PV := if figB s ls = true ∧ stgG ls g = true then (match finesG s ls g with
  | [] => .tuple [.sl .n [], ii 0, ii 5]
  | l :: r => .tuple [pvL l, ii ((r.length : Int) + 1), ii 0]) else .tuple [.sl .n [], ii 0, ii 2]
def outG (fs : List (List Int)) (i : Nat) : PV := if i = 0 then .sl .n [] else pvL (fs.headD [])
def cfFi : CallF := cfAdd (cfAdd (cfAdd cf0 85 c85) 96 c96) 108 c108
theorem cfFi_ok : CallFOk Tryz.prog cfFi := cfAdd_ok (cfAdd_ok (cfAdd_ok cf0_ok c85_ok) c96_ok) c108_ok
theorem First_52 (s : Int) (z zh zr : Z) (ls : List Lb) (g : Stg) (hzo : zOk z (ls.map encLb) = true) (hh : zOk zh (g.hs.map encFld) = true) (hr : zOk zr (g.rs.map ii) = true) :
    CallOk Tryz.prog 52 [.agg [ii s, .sl z (ls.map encLb)], encStg zh zr g] [] (.ret (firstR s ls g)) [] := by
  refine CallOk.ofF hTT Tryz.func52 rfl rfl ?_
  have hd := decFig_enc s z ls hzo
  have hd2 := decStg_enc hh hr
  unfold firstR
  unfold encStg at hd2 ⊢
  cases a0 : figB s ls
  · repeat (first | (with_reducible (first | apply wA | apply wB | apply wC | apply wD | apply wE | apply wF | apply wG | apply wH | apply wI | apply wJ | apply wK | apply wL | apply wM | apply wN | apply wO | apply wP | apply wQ rfl | apply wR | apply wS | apply wT | apply wU)) | ((with_reducible (first | apply wV | apply wW | apply wX | (apply wY [] hTT cfFi_ok noM_ok mixed; (focus kernel_rfl)))); (focus (simp only [Tryz.f52, cfFi, c85, hd, a0, notYield, go_sem]; with_reducible rfl))) | (with_reducible refine wZ hTT cfFi_ok noM_ok ?_) | (with_reducible refine wa ?_; refine And.intro ?_ ?_; (focus kernel_rfl)))
    exact ⟨rfl, rfl, _, rfl, leave_closed rfl⟩
  have hl := fig_len a0
  have hs : ls.length ≤ maxLen := by unfold maxLen; omega
  cases a1 : stgG ls g
  · repeat (first | (with_reducible (first | apply wA | apply wB | apply wC | apply wD | apply wE | apply wF | apply wG | apply wH | apply wI | apply wJ | apply wK | apply wL | apply wM | apply wN | apply wO | apply wP | apply wQ rfl | apply wR | apply wS | apply wT | apply wU)) | ((with_reducible (first | apply wV | apply wW | apply wX | (apply wY [] hTT cfFi_ok noM_ok mixed; (focus kernel_rfl)))); (focus (simp only [Tryz.f52, cfFi, c85, c96, hd, hd2, a0, a1, hs, notYield, go_sem]; with_reducible rfl))) | (with_reducible refine wZ hTT cfFi_ok noM_ok ?_) | (with_reducible refine wa ?_; refine And.intro ?_ ?_; (focus kernel_rfl)))
    exact ⟨rfl, rfl, _, rfl, leave_closed rfl⟩
  have hdk := decSt_enc s z zh zr ls g
  have hfl := fines_len a0 g
  rw [if_pos ⟨rfl, rfl⟩]
  repeat (first | (with_reducible (first | apply wA | ((fail_if_success (refine RunQ.seq (x := .region 10 _ _) ?_)); (apply wB)) | apply wC | apply wD | apply wE | apply wF | apply wG | apply wH | apply wI | apply wJ | apply wK | apply wL | apply wM | apply wN | apply wO | apply wP | apply wQ rfl | apply wR | apply wS | apply wT | apply wU)) | ((with_reducible (first | apply wV | apply wW | apply wX | (apply wY [] hTT cfFi_ok noM_ok mixed; (focus kernel_rfl)))); (focus (simp only [Tryz.f52, cfFi, c85, c96, c108, hd, hd2, a0, a1, hs, hdk, notYield, go_sem]; with_reducible rfl))) | ((fail_if_success (with_reducible show RunQ _ (.region 10 _ _) _ _)); (with_reducible refine wZ hTT cfFi_ok noM_ok ?_)) | (with_reducible refine wa ?_; refine And.intro ?_ ?_; (focus kernel_rfl)))
  refine RunQ.keep [22, 8, 7] (by simp only [go_sem]; rfl) ?_
  have hKc := closed_stgC s z zh zr ls g
  have htm : ∀ t v, getT [(22, .fn (.func 147) [] [.ip (stgC s z zh zr ls g)]), (8, .bp 3 0), (7, .bp 2 0)] t = some v → Pv.Lt 5 v := by
    intro t v hv
    obtain ⟨p, hp, rfl⟩ := getT_mem hv
    simp only [List.mem_cons, List.not_mem_nil, or_false] at hp
    rcases hp with rfl | rfl | rfl
    · refine .fn (fun c hc => by cases hc) fun c hc => ?_
      simp only [List.mem_cons, List.not_mem_nil, or_false] at hc
      subst hc
      exact (lt_of_closed _ (show (PV.ip _).closed = true from hKc)).mono (by omega)
    · exact .bp (show (3 : Nat) < 5 by decide)
    · exact .bp (show (2 : Nat) < 5 by decide)
  have hcs : closedL [ii g.e.a, ii g.e.b, ii g.e.c, ii g.e.d, .sl zh (g.hs.map encFld), .sl zr (g.rs.map ii)] = true := by simp [closedL, PV.closed, closedL_flds, closedL_is]
  have hcf : closedL [ii s, .sl z (ls.map encLb)] = true := by simp [closedL, PV.closed, closedL_lbs]
  generalize hfs : finesG s ls g = fs at hfl ⊢
  have hpz : ∀ l : List Int, (pvL l).closed = true := fun l => by unfold pvL; exact closedL_is l
  have hoz : ∀ i, (outG fs i).closed = true := fun i => by
    unfold outG
    split
    · rfl
    · exact hpz _
  refine RunQ.range (L := fs.map fun l => [pvL l]) (first := []) (cap := [.ip (stgC s z zh zr ls g)]) rfl (ent Tryz.func147 rfl) (by rw [← hfs]; exact fines_147 s z zh zr ls g hzo hh hr a0 a1) ?_ ?_ htm
    (fun i st => st = [.var [ii s, .sl z (ls.map encLb)] false, .var [ii g.e.a, ii g.e.b, ii g.e.c, ii g.e.d, .sl zh (g.hs.map encFld), .sl zr (g.rs.map ii)] false, .var [outG fs i] false, .var [ii i] false])
    rfl ?_ ?_ ?_
  · intro e he
    obtain ⟨l, _, rfl⟩ := List.mem_map.1 he
    rfl
  · intro p hp
    have hp7 : p = 23 := by simpa using hp
    subst hp7
    show (23 : Nat) < 33
    decide
  · rintro i st rfl
    refine ⟨rfl, fun x hx => ?_, sameLoops_of _ _ rfl⟩
    simp only [List.mem_cons, List.not_mem_nil, or_false] at hx
    rcases hx with rfl | rfl | rfl | rfl
    · exact fun c hc => (lt_of_closedL _ hcf c hc).mono (Nat.zero_le _)
    · exact fun c hc => (lt_of_closedL _ hcs c hc).mono (Nat.zero_le _)
    · exact fun c hc => by
        simp only [List.mem_cons, List.not_mem_nil, or_false] at hc
        subst hc
        exact (lt_of_closed _ (hoz i)).mono (Nat.zero_le _)
    · exact fun c hc => by
        simp only [List.mem_cons, List.not_mem_nil, or_false] at hc
        subst hc
        exact .int
  · rintro i e st he rfl
    obtain ⟨l, hl2, rfl⟩ : ∃ l, fs[i]? = some l ∧ e = [pvL l] := by
      rw [List.getElem?_map, Option.map_eq_some_iff] at he
      obtain ⟨l, a, rfl⟩ := he
      exact ⟨l, a, rfl⟩
    have hlt := (List.getElem?_eq_some_iff.1 hl2).1
    obtain ⟨zn, hzn, hzk⟩ := pvL_z l
    have e4 : IntKind.i64.wrap ((i : Int) + 1) = ((i + 1 : Nat) : Int) := wrap_id (by omega) (by omega)
    refine .next _ rfl fun own ho => ?_
    unfold YRun
    generalize hX : Box.loop _ = X1
    by_cases hi : i = 0
    · subst hi
      have ho1 : outG fs (0 + 1) = .sl zn (l.map ii) := by
        unfold outG
        rw [if_neg (by omega), ← hzn]
        cases fs with
        | nil => cases hl2
        | cons a r => cases hl2; rfl
      rw [ho1, hzn]
      repeat (first | (with_reducible (first | apply wA | apply wB | apply wC | apply wD | apply wE | apply wF | apply wG | apply wH | apply wI | apply wJ | apply wK | apply wL | apply wM | apply wN | apply wO | apply wP | apply wQ rfl | apply wR | apply wS | apply wT | apply wU)) | ((with_reducible (first | apply wV | apply wW | apply wX | (apply wY [] hTT cfFi_ok noM_ok mixed; (focus kernel_rfl)))); (focus (simp only [Tryz.f52, putPs, List.toList_toArray, go_sem]; with_reducible rfl))) | (with_reducible refine wZ hTT cfFi_ok noM_ok ?_) | (with_reducible refine wa ?_; refine And.intro ?_ ?_; (focus kernel_rfl)))
      refine ⟨rfl, own, by rw [← hX]; rfl, ?_⟩
      dsimp only
      generalize hX2 : Box.loop _ = X2
      have e0 : ((0 : Nat) : Int) = 0 := rfl
      have w1 : IntKind.i64.wrap 1 = 1 := wrap_id (by omega) (by omega)
      repeat (first | (with_reducible (first | apply wA | apply wB | apply wC | apply wD | apply wE | apply wF | apply wG | apply wH | apply wI | apply wJ | apply wK | apply wL | apply wM | apply wN | apply wO | apply wP | apply wQ rfl | apply wR | apply wS | apply wT | apply wU)) | ((with_reducible (first | apply wV | apply wW | apply wX | (apply wY [] hTT cfFi_ok noM_ok mixed; (focus kernel_rfl)))); (focus (simp only [Tryz.f52, e0, e4, w1, beq_self_eq_true, go_sem]; with_reducible rfl))) | (with_reducible refine wZ hTT cfFi_ok noM_ok ?_) | (with_reducible refine wa ?_; refine And.intro ?_ ?_; (focus kernel_rfl)))
      exact ⟨rfl, [], by rw [← hX2]; simp⟩
    · have ho1 : outG fs (i + 1) = outG fs i := by
        unfold outG
        rw [if_neg (by omega), if_neg hi]
      have hi0 : ((i : Int) == 0) = false := by simp; omega
      rw [ho1, hzn]
      repeat (first | (with_reducible (first | apply wA | apply wB | apply wC | apply wD | apply wE | apply wF | apply wG | apply wH | apply wI | apply wJ | apply wK | apply wL | apply wM | apply wN | apply wO | apply wP | apply wQ rfl | apply wR | apply wS | apply wT | apply wU)) | ((with_reducible (first | apply wV | apply wW | apply wX | (apply wY [] hTT cfFi_ok noM_ok mixed; (focus kernel_rfl)))); (focus (simp only [Tryz.f52, putPs, List.toList_toArray, go_sem]; with_reducible rfl))) | (with_reducible refine wZ hTT cfFi_ok noM_ok ?_) | (with_reducible refine wa ?_; refine And.intro ?_ ?_; (focus kernel_rfl)))
      refine ⟨rfl, own, by rw [← hX]; rfl, ?_⟩
      dsimp only
      generalize hX2 : Box.loop _ = X2
      repeat (first | (with_reducible (first | apply wA | apply wB | apply wC | apply wD | apply wE | apply wF | apply wG | apply wH | apply wI | apply wJ | apply wK | apply wL | apply wM | apply wN | apply wO | apply wP | apply wQ rfl | apply wR | apply wS | apply wT | apply wU)) | ((with_reducible (first | apply wV | apply wW | apply wX | (apply wY [] hTT cfFi_ok noM_ok mixed; (focus kernel_rfl)))); (focus (simp only [Tryz.f52, hi0, e4, go_sem]; with_reducible rfl))) | (with_reducible refine wZ hTT cfFi_ok noM_ok ?_) | (with_reducible refine wa ?_; refine And.intro ?_ ?_; (focus kernel_rfl)))
      exact ⟨rfl, [], by rw [← hX2]; simp⟩
  · rintro st rfl
    rw [List.length_map]
    cases hfc : fs with
    | nil =>
      have e0 : (([] : List (List Int)).length : Int) = 0 := rfl
      repeat (first | (with_reducible (first | apply wA | apply wB | apply wC | apply wD | apply wE | apply wF | apply wG | apply wH | apply wI | apply wJ | apply wK | apply wL | apply wM | apply wN | apply wO | apply wP | apply wQ rfl | apply wR | apply wS | apply wT | apply wU)) | ((with_reducible (first | apply wV | apply wW | apply wX | (apply wY [] hTT cfFi_ok noM_ok mixed; (focus kernel_rfl)))); (focus (simp only [Tryz.f52, e0, beq_self_eq_true, go_sem]; with_reducible rfl))) | (with_reducible refine wZ hTT cfFi_ok noM_ok ?_) | (with_reducible refine wa ?_; refine And.intro ?_ ?_; (focus kernel_rfl)))
      exact ⟨rfl, rfl, _, rfl, leave_closed rfl⟩
    | cons l r =>
      have hi0 : (((l :: r).length : Int) == 0) = false := by simp; omega
      have ho1 : outG (l :: r) (l :: r).length = pvL l := by
        unfold outG
        rw [if_neg (by simp)]
        rfl
      rw [ho1]
      dsimp only
      obtain ⟨zn, hzn, hzk⟩ := pvL_z l
      have hc0 : (pvL l).closed = true := hpz l
      rw [hzn] at hc0 ⊢
      generalize hln : ((l :: r).length : Int) = ln at hi0 ⊢
      have e1 : (r.length : Int) + 1 = ln := by rw [← hln]; simp
      rw [e1]
      repeat (first | (with_reducible (first | apply wA | apply wB | apply wC | apply wD | apply wE | apply wF | apply wG | apply wH | apply wI | apply wJ | apply wK | apply wL | apply wM | apply wN | apply wO | apply wP | apply wQ rfl | apply wR | apply wS | apply wT | apply wU)) | ((with_reducible (first | apply wV | apply wW | apply wX | (apply wY [] hTT cfFi_ok noM_ok mixed; (focus kernel_rfl)))); (focus (simp only [Tryz.f52, hi0, go_sem]; with_reducible rfl))) | (with_reducible refine wZ hTT cfFi_ok noM_ok ?_) | (with_reducible refine wa ?_; refine And.intro ?_ ?_; (focus kernel_rfl)))
      exact ⟨rfl, rfl, _, rfl, leave_closed (show closedL [.sl zn (l.map ii), ii ln, ii 0] = true from by simp only [closedL, hc0]; rfl)⟩
end Go.Pv
