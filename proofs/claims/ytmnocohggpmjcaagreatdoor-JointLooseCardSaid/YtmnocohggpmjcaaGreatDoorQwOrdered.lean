/- Contracts: the places where the end of a limb is in some poses, each once, in order. -/
import Derived.Test.YtmnocohggpmjcaaGreatDoorQwCmp
import Derived.Test.YtmnocohggpmjcaaGreatDoorQwSort
import Derived.Test.YtmnocohggpmjcaaGreatDoorQfJoint
import Derived.Test.YtmnocohggpmjcaaGreatDoorQoFine
import Derived.Test.YtmnocohggpmjcaaGreatDoorQlLoop
import Derived.Test.YtmnocohggpmjcaaGreatDoorQgEnds
set_option linter.all false
namespace Go.Pv
open Go Go.RowKit Go.Proofs
set_option maxRecDepth 10000
set_option maxHeartbeats 4000000
theorem eqPlT (a b : Pl) : eqT (TT 133) (encPl a) (encPl b) = some (decide (a = b)) := by
  obtain ⟨a1, a2⟩ := a
  obtain ⟨b1, b2⟩ := b
  have e : eqT (TT 133) (encPl (a1, a2)) (encPl (b1, b2)) = some (a1 == b1 && (a2 == b2 && true)) := by kernel_rfl
  rw [e]
  congr 1
  rw [Bool.eq_iff_iff]
  simp [Prod.ext_iff]
theorem findP_not {k : Pl} : ∀ (B : List Pl) (j : Nat), k ∉ B → findC (TT 133) (encPl k) (B.map encPl) j = some none
  | [], _, _ => rfl
  | b :: B, j, h => by
    have h1 : ¬ k = b := fun e => h (e ▸ List.mem_cons_self ..)
    have h2 : k ∉ B := fun e => h (List.mem_cons_of_mem _ e)
    show (if (encPl b).ag = true then _ else _) = _
    rw [if_pos (show (encPl b).ag = true from rfl), eqPlT, decide_eq_false h1, findP_not B (j + 1) h2]
theorem findP_in {k : Pl} : ∀ (B : List Pl) (j : Nat), B.Nodup → k ∈ B → ∃ i, findC (TT 133) (encPl k) (B.map encPl) j = some (some (j + i)) ∧ i < B.length
  | [], _, _, h => by cases h
  | b :: B, j, hn, h => by
    obtain ⟨n1, n2⟩ := List.nodup_cons.1 hn
    show ∃ i, (if (encPl b).ag = true then _ else _) = _ ∧ _
    rw [if_pos (show (encPl b).ag = true from rfl), eqPlT]
    by_cases hb : k = b
    · subst hb
      rw [decide_eq_true rfl, findP_not B (j + 1) n1]
      exact ⟨0, rfl, by simp⟩
    · have hk : k ∈ B := by
        rcases List.mem_cons.1 h with h | h
        · exact absurd h hb
        · exact h
      obtain ⟨i, e1, e2⟩ := findP_in B (j + 1) n2 hk
      rw [decide_eq_false hb, e1]
      exact ⟨i + 1, by simp; omega, by simp; omega⟩
/-- Pairs of numbers of 64 bits out of places. -/
theorem pps_of : ∀ (U : List Pl), (∀ p ∈ U, -1000 ≤ p.1 ∧ p.1 ≤ 1000 ∧ -1000 ≤ p.2 ∧ p.2 ≤ 1000) → ∃ l : List PP, l.map PP.pl = U
  | [], _ => ⟨[], rfl⟩
  | p :: U, h => by
    obtain ⟨l, hl⟩ := pps_of U fun q hq => h q (List.mem_cons_of_mem _ hq)
    have hp := h p (List.mem_cons_self ..)
    have w : ∀ n : Int, -1000 ≤ n → n ≤ 1000 → (Lit.int .i64 n).wf = true := fun n h1 h2 => by
      simp [Lit.wf, IntKind.min, IntKind.max, IntKind.signed, IntKind.bits]; omega
    exact ⟨⟨p.1, p.2, w _ hp.1 hp.2.1, w _ hp.2.2.1 hp.2.2.2⟩ :: l, by rw [List.map_cons, hl]; rfl⟩
theorem pv_pl (l : List PP) : l.map PP.pv = (l.map PP.pl).map encPl := by rw [List.map_map]; rfl
/-- The ends of a limb in some poses. -/
def endL (s : Int) (ls : List Lb) (limb : Int) (T : List (List Int)) : List Pl := T.map (endG1 s ls limb)
def plsP (U : List Pl) : PV := .sl (if decide (U.length = 0) = true then .n else .a) (U.map encPl)
theorem tail1 {α : Type} (l : List α) (a b : α) : (l ++ [a, b])[l.length + 1]? = some b := by rw [List.getElem?_append_right (by omega)]; simp
theorem tail0 {α : Type} (l : List α) (a b : α) : (l ++ [a, b])[l.length]? = some a := by rw [List.getElem?_append_right (by omega)]; simp
theorem tail1s {α : Type} (l : List α) (a b c : α) : (l ++ [a, b]).set (l.length + 1) c = l ++ [a, c] := by rw [List.set_append_right _ _ (by omega)]; simp
theorem tail0s {α : Type} (l : List α) (a b c : α) : (l ++ [a, b]).set l.length c = l ++ [c, b] := by rw [List.set_append_right _ _ (by omega)]; simp
theorem plsP_closed (U : List Pl) : (plsP U).closed = true := closedL_map (fun _ => rfl) U
open Classical in
/-- The table with one call more, at these arguments alone. -/
noncomputable def cfAt (cf : CallF) (g : FuncId) (args : List PV) (v : PV) : CallF := fun g1 a1 s1 => if g1 = g ∧ a1 = args then some (.ret v, s1) else cf g1 a1 s1
theorem cfAt_ok {P : Program} {cf : CallF} (h : CallFOk P cf) {g : FuncId} {args : List PV} {v : PV} (he : Enters P g) (hc : CallOk P g args [] (.ret v) []) (hl : ltBL 0 args = true) : CallFOk P (cfAt cf g args v) := by
  intro f a s r1 s1 e
  unfold cfAt at e
  split at e
  · rename_i hh
    obtain ⟨rfl, rfl⟩ := hh
    cases e
    exact ⟨he, hc.frame (lt_of_ltBL 0 _ hl) _, SameLoops.refl _⟩
  · exact h _ _ _ _ _ e
end Go.Pv
namespace Go.Pv
open Go Go.RowKit Go.Proofs
set_option maxRecDepth 10000
set_option maxHeartbeats 4000000
theorem spPc (sp : List (Int × Int)) : (spP .a sp).closed = true := by
  show closedL [.sl .a (sp.map spE)] = true
  simp [closedL, PV.closed, closedL_sp]
def cfO5 : CallF := cfAdd cf0 87 c87
theorem cfO5_ok : CallFOk Tryz.prog cfO5 := cfAdd_ok cf0_ok c87_ok
theorem ordered_89 (s : Int) (z : Z) (ls : List Lb) (limb : Int) (sp : List (Int × Int)) (hzo : zOk z (ls.map encLb) = true) (hf : figB s ls = true) (hli : 0 ≤ limb ∧ limb < ls.length) (hsp : ∀ x ∈ sp, -1000 ≤ x.1 ∧ x.1 ≤ 1000 ∧ -1000 ≤ x.2 ∧ x.2 ≤ 1000) (hspl : sp.length ≤ 1000)
    (hPm : ∀ l ∈ exts sp [], poseG ls l = true) (hTl : (exts sp []).length ≤ 59049) :
    CallOk Tryz.prog 89 [.agg [ii s, .sl z (ls.map encLb)], .fn (.func 166) [] [spP .a sp], ii limb] [] (.ret (plsP (putsP (endL s ls limb (exts sp []))))) [] := by
  refine CallOk.ofF hTT Tryz.func89 rfl rfl ?_
  have hd := decFig_enc s z ls hzo
  have hl := fig_len hf
  have hs : ls.length ≤ maxLen := by unfold maxLen; omega
  have hspc := spPc sp
  have hit := lists_166 .a sp (fun e => by cases e) hsp hspl
  repeat (first | (with_reducible (first | apply wA | apply wB | apply wC | apply wD | apply wE | apply wF | apply wG | apply wH | apply wI | apply wJ | apply wK | apply wL | apply wM | apply wN | apply wO | apply wP | apply wQ rfl | apply wR | apply wS | apply wT | apply wU)) | ((with_reducible (first | apply wV | apply wW | apply wX | (apply wY [] hTT cfO5_ok noM_ok mixed; (focus kernel_rfl)))); (focus (simp only [Tryz.f89, notYield, makeMapC, go_sem]; with_reducible rfl))) | (with_reducible refine wZ hTT cfO5_ok noM_ok ?_) | (with_reducible refine wa ?_; refine And.intro ?_ ?_; (focus kernel_rfl)))
  refine RunQ.keep [12, 8, 7, 5, 3] (by simp only [go_sem]; rfl) ?_
  refine RunQ.nilBox (sg' := [.var [ii s, .sl z (ls.map encLb)] false, .var [ii limb] false, .map [] [] false, .var [.mp 2] false, .var [.ms 5 0] false, .row true 36 2 [] false]) 4 0 36 2 rfl rfl rfl ?_
  generalize exts sp [] = T at *
  have hcf : closedL [ii s, .sl z (ls.map encLb)] = true := by simp [closedL, PV.closed, closedL_lbs]
  refine RunQ.range (L := T.map fun l => [pvL l]) (first := []) (cap := [spP .a sp]) rfl (ent Tryz.func166 rfl) hit ?_ ?_ ?_
    (fun i st => st = [.var [ii s, .sl z (ls.map encLb)] false, .var [ii limb] false, .map ((uniqP (endL s ls limb (T.take i))).map encPl) ((uniqP (endL s ls limb (T.take i))).map fun _ => .bool true) false, .var [.mp 2] false, .var [.ms 5 (uniqP (endL s ls limb (T.take i))).length] false, .row (decide ((uniqP (endL s ls limb (T.take i))).length = 0)) 36 2 ((uniqP (endL s ls limb (T.take i))).map encPl) false])
    rfl ?_ ?_ ?_
  · intro e he
    obtain ⟨l, _, rfl⟩ := List.mem_map.1 he
    rfl
  · intro p hp
    have hp7 : p = 13 := by simpa using hp
    subst hp7
    show (13 : Nat) < 33
    decide
  · intro t v hv
    obtain ⟨p, hp, rfl⟩ := getT_mem hv
    simp only [List.mem_cons, List.not_mem_nil, or_false] at hp
    rcases hp with rfl | rfl | rfl | rfl | rfl
    · refine .fn (fun c hc => by cases hc) fun c hc => ?_
      simp only [List.mem_cons, List.not_mem_nil, or_false] at hc
      subst hc
      exact (lt_of_closed _ hspc).mono (by omega)
    · exact .bp (show (4 : Nat) < 7 by decide)
    · exact .bp (show (3 : Nat) < 7 by decide)
    · exact .bp (show (1 : Nat) < 7 by decide)
    · exact .bp (show (0 : Nat) < 7 by decide)
  · rintro i st rfl
    refine ⟨rfl, fun x hx => ?_, sameLoops_of _ _ rfl⟩
    simp only [List.mem_cons, List.not_mem_nil, or_false] at hx
    rcases hx with rfl | rfl | rfl | rfl | rfl | rfl
    · exact fun c hc => (lt_of_closedL _ hcf c hc).mono (Nat.zero_le _)
    · exact fun c hc => (lt_of_closedL _ (show closedL [ii limb] = true from rfl) c hc).mono (Nat.zero_le _)
    · refine ⟨fun c hc => ?_, fun c hc => ?_⟩
      · obtain ⟨q, _, rfl⟩ := List.mem_map.1 hc
        exact (lt_of_closed (encPl q) rfl).mono (Nat.zero_le _)
      · obtain ⟨q, _, rfl⟩ := List.mem_map.1 hc
        exact (lt_of_closed (.bool true) rfl).mono (Nat.zero_le _)
    · exact fun c hc => by
        simp only [List.mem_cons, List.not_mem_nil, or_false] at hc
        subst hc
        exact .mp (show (2 : Nat) < 7 by decide)
    · exact fun c hc => by
        simp only [List.mem_cons, List.not_mem_nil, or_false] at hc
        subst hc
        exact .ms (show (5 : Nat) < 7 by decide)
    · exact fun c hc => (lt_of_closedL _ (closedL_flat _ (closedL_map (fun _ => rfl) _)) c hc).mono (Nat.zero_le _)
  · rintro i e st he rfl
    obtain ⟨l, hl2, rfl⟩ : ∃ l, T[i]? = some l ∧ e = [pvL l] := by
      rw [List.getElem?_map, Option.map_eq_some_iff] at he
      obtain ⟨l, a, rfl⟩ := he
      exact ⟨l, a, rfl⟩
    have hlt := (List.getElem?_eq_some_iff.1 hl2).1
    have hpl : poseG ls l = true := hPm l (List.mem_of_getElem? hl2)
    have hll := (pose_at hpl).1
    have hlne : l ≠ [] := fun e => by rw [e] at hll; simp at hll; omega
    have hzn : pvL l = .sl .a (l.map ii) := by
      unfold pvL
      cases l with
      | nil => exact absurd rfl hlne
      | cons a r => rfl
    have hzk : zOk .a (l.map ii) = true := by cases l <;> rfl
    have hd3' := decIs1_enc hzk
    have g0 := ends_get (s := s) hf hpl hli
    have g0' : ((ends s ls l).map encPl)[limb.toNat]? = some (.agg [ii (endG1 s ls limb l).1, ii (endG1 s ls limb l).2]) := by rw [List.getElem?_map, g0]; rfl
    have hel : (ends s ls l).length = ls.length := ends_ln hf hpl
    have h0l := hli.1
    have h1l := hli.2
    have htk : uniqP (endL s ls limb (T.take (i + 1))) = uniqQ (uniqP (endL s ls limb (T.take i))) (endG1 s ls limb l) := by
      unfold endL
      rw [List.take_add_one, hl2, List.map_append]
      exact uniq_snoc _ _
    have hnd := uniq_nodup (endL s ls limb (T.take i))
    have hUl : (uniqP (endL s ls limb (T.take i))).length ≤ 59049 := by
      have := uniq_len (endL s ls limb (T.take i))
      have h2 : (endL s ls limb (T.take i)).length ≤ T.length := by simp [endL]; omega
      omega
    rw [hzn]
    refine .next _ rfl fun own ho => ?_
    rw [htk]
    generalize uniqP (endL s ls limb (T.take i)) = U at hnd hUl ⊢
    generalize endG1 s ls limb l = q at g0' ⊢
    have hnd2 : [0, 1, own.length + 7, own.length + 8].Nodup := by simp
    have hko : keyOkC ⟨2, 16, [.int .i64 0, .int .i64 0], .struct [(0, 3), (1, 3)], some [.i .i64, .i .i64]⟩ (.agg [ii q.1, ii q.2]) = true := by kernel_rfl
    unfold YRun
    generalize hX : Box.loop _ = X1
    by_cases hq : q ∈ U
    · obtain ⟨j, e1, e2⟩ := findP_in U 0 hnd hq
      have e1' : findC ⟨2, 16, [.int .i64 0, .int .i64 0], .struct [(0, 3), (1, 3)], some [.i .i64, .i .i64]⟩ (.agg [ii q.1, ii q.2]) (U.map encPl) 0 = some (some (0 + j)) := e1
      have e3 : (U.map fun _ => PV.bool true)[0 + j]? = some (.bool true) := by
        rw [Nat.zero_add, List.getElem?_map, List.getElem?_eq_getElem e2]; rfl
      generalize 0 + j = jj at e1' e3
      unfold uniqQ
      rw [if_pos hq]
      repeat (first | (with_reducible (first | apply wA | apply wB | apply wC | apply wD | apply wE | apply wF | apply wG | apply wH | apply wI | apply wJ | apply wK | apply wL | apply wM | apply wN | apply wO | apply wP | apply wQ rfl | apply wR | apply wS | apply wT | apply wU)) | ((with_reducible (first | apply wV | apply wW | apply wX | (apply wY [] hTT cfO5_ok noM_ok mixed; (focus kernel_rfl)))); (focus (simp only [Tryz.f89, putPs, List.toList_toArray, go_sem]; with_reducible rfl))) | (with_reducible refine wZ hTT cfO5_ok noM_ok ?_) | (with_reducible refine wa ?_; refine And.intro ?_ ?_; (focus kernel_rfl)))
      refine ⟨rfl, own, by rw [← hX]; rfl, ?_⟩
      dsimp only
      generalize hX2 : Box.loop _ = X2
      repeat (first | (with_reducible (first | apply wA | ((fail_if_success (refine RunQ.seq (x := .region 5 _ _) ?_)); (apply wB)) | apply wC | apply wD | apply wE | apply wF | apply wG | apply wH | apply wI | apply wJ | apply wK | apply wL | apply wM | apply wN | apply wO | apply wP | apply wQ rfl | apply wR | apply wS | apply wT | apply wU)) | ((with_reducible (first | apply wV | apply wW | apply wX | (apply wY [] hTT cfO5_ok noM_ok mixed; (focus kernel_rfl)))); (focus (simp only [Tryz.f89, go_sem]; with_reducible rfl))) | ((fail_if_success (with_reducible show RunQ _ (.region 5 _ _) _ _)); (with_reducible refine wZ hTT cfO5_ok noM_ok ?_)) | (with_reducible refine wa ?_; refine And.intro ?_ ?_; (focus kernel_rfl)))
      refine RunQ.seq ?_
      refine RunQ.drawn [] hTT cfO5_ok noM_ok mixed (by kernel_rfl) (by simp only [go_sem]; rfl) ?_
      iterate 8 (apply DrawQ.step; (focus (simp only [Tryz.f89, cfO5, c87, hd, hd3', hf, hpl, g0', h0l, h1l, hel, closedL_lbs, closedL_is, tail0, tail1, tail0s, tail1s, freeB, List.length_map, go_sem]; with_reducible rfl)))
      refine DrawQ.nil ⟨boxOk_ren [0, 1, own.length + 7, own.length + 8] [(false, none, [0]), (false, none, []), (false, none, [2]), (false, none, [1]), (false, none, []), (false, none, []), (false, some 3, [3]), (false, some 3, [3])] hnd2 (by kernel_rfl) rfl (by kernel_rfl), ?_⟩
      repeat (first | (with_reducible (first | apply wA | apply wB | apply wC | apply wD | apply wE | apply wF | apply wG | apply wH | apply wI | apply wJ | apply wK | apply wL | apply wM | apply wN | apply wO | apply wP | apply wQ rfl | apply wR | apply wS | apply wT | apply wU)) | ((with_reducible (first | apply wV | apply wW | apply wX | (apply wY [] hTT cfO5_ok noM_ok mixed; (focus kernel_rfl)))); (focus (simp only [Tryz.f89, tail0, tail1, tail0s, tail1s, lookupC, mapC, hko, e1', e3, List.length_map, go_sem]; with_reducible rfl))) | (with_reducible refine wZ hTT cfO5_ok noM_ok ?_) | (with_reducible refine wa ?_; refine And.intro ?_ ?_; (focus kernel_rfl)))
      exact ⟨rfl, [.dead, .var [ii q.1, ii q.2] false], by rw [← hX2]; simp⟩
    · have e1 := findP_not U 0 hq
      have e1' : findC ⟨2, 16, [.int .i64 0, .int .i64 0], .struct [(0, 3), (1, 3)], some [.i .i64, .i .i64]⟩ (.agg [ii q.1, ii q.2]) (U.map encPl) 0 = some none := e1
      have r2 : U.length + 1 ≤ maxLen := by unfold maxLen; omega
      have r3 : (U.length + 1) * 16 ≤ 140737488355328 := by omega
      unfold uniqQ
      rw [if_neg hq]
      repeat (first | (with_reducible (first | apply wA | apply wB | apply wC | apply wD | apply wE | apply wF | apply wG | apply wH | apply wI | apply wJ | apply wK | apply wL | apply wM | apply wN | apply wO | apply wP | apply wQ rfl | apply wR | apply wS | apply wT | apply wU)) | ((with_reducible (first | apply wV | apply wW | apply wX | (apply wY [] hTT cfO5_ok noM_ok mixed; (focus kernel_rfl)))); (focus (simp only [Tryz.f89, putPs, List.toList_toArray, go_sem]; with_reducible rfl))) | (with_reducible refine wZ hTT cfO5_ok noM_ok ?_) | (with_reducible refine wa ?_; refine And.intro ?_ ?_; (focus kernel_rfl)))
      refine ⟨rfl, own, by rw [← hX]; rfl, ?_⟩
      dsimp only
      generalize hX2 : Box.loop _ = X2
      repeat (first | (with_reducible (first | apply wA | ((fail_if_success (refine RunQ.seq (x := .region 5 _ _) ?_)); (apply wB)) | apply wC | apply wD | apply wE | apply wF | apply wG | apply wH | apply wI | apply wJ | apply wK | apply wL | apply wM | apply wN | apply wO | apply wP | apply wQ rfl | apply wR | apply wS | apply wT | apply wU)) | ((with_reducible (first | apply wV | apply wW | apply wX | (apply wY [] hTT cfO5_ok noM_ok mixed; (focus kernel_rfl)))); (focus (simp only [Tryz.f89, go_sem]; with_reducible rfl))) | ((fail_if_success (with_reducible show RunQ _ (.region 5 _ _) _ _)); (with_reducible refine wZ hTT cfO5_ok noM_ok ?_)) | (with_reducible refine wa ?_; refine And.intro ?_ ?_; (focus kernel_rfl)))
      refine RunQ.seq ?_
      refine RunQ.drawn [] hTT cfO5_ok noM_ok mixed (by kernel_rfl) (by simp only [go_sem]; rfl) ?_
      iterate 8 (apply DrawQ.step; (focus (simp only [Tryz.f89, cfO5, c87, hd, hd3', hf, hpl, g0', h0l, h1l, hel, closedL_lbs, closedL_is, tail0, tail1, tail0s, tail1s, freeB, List.length_map, go_sem]; with_reducible rfl)))
      refine DrawQ.nil ⟨boxOk_ren [0, 1, own.length + 7, own.length + 8] [(false, none, [0]), (false, none, []), (false, none, [2]), (false, none, [1]), (false, none, []), (false, none, []), (false, some 3, [3]), (false, some 3, [3])] hnd2 (by kernel_rfl) rfl (by kernel_rfl), ?_⟩
      repeat (first | (with_reducible (first | apply wA | apply wB | apply wC | apply wD | apply wE | apply wF | apply wG | apply wH | apply wI | apply wJ | apply wK | apply wL | apply wM | apply wN | apply wO | apply wP | apply wQ rfl | apply wR | apply wS | apply wT | apply wU)) | ((with_reducible (first | apply wV | apply wW | apply wX | (apply wY [] hTT cfO5_ok noM_ok mixed; (focus kernel_rfl)))); (focus (simp only [Tryz.f89, tail0, tail1, tail0s, tail1s, lookupC, mapUpdateC, mapC, hko, e1', r2, r3, List.length_map, go_sem]; with_reducible rfl))) | (with_reducible refine wZ hTT cfO5_ok noM_ok ?_) | (with_reducible refine wa ?_; refine And.intro ?_ ?_; (focus kernel_rfl)))
      exact ⟨rfl, [.dead, .var [ii q.1, ii q.2] false, .dead], by rw [← hX2]; simp [encPl]⟩
  · rintro st rfl
    rw [List.length_map, List.take_length]
    have hbd : ∀ p ∈ uniqP (endL s ls limb T), -1000 ≤ p.1 ∧ p.1 ≤ 1000 ∧ -1000 ≤ p.2 ∧ p.2 ≤ 1000 := fun p hp => by
      obtain ⟨l, hl1, rfl⟩ := List.mem_map.1 ((uniq_mem _ _).1 hp)
      have g0 := ends_get (s := s) hf (hPm l hl1) hli
      have := ends_bound hf (hPm l hl1) limb.toNat (by omega) _ g0
      unfold endG1
      omega
    have hUl : (uniqP (endL s ls limb T)).length ≤ 59049 := by
      have := uniq_len (endL s ls limb T)
      have h2 : (endL s ls limb T).length = T.length := by simp [endL]
      omega
    obtain ⟨l, hl2⟩ := pps_of _ hbd
    have hm := merge_puts hl2
    generalize uniqP (endL s ls limb T) = U at hl2 hUl ⊢
    subst hl2
    rw [List.length_map] at hUl
    rw [List.length_map, ← pv_pl]
    have hml := List.length_mergeSort (le := fun x y => !(Go.Proofs.ltOf cmpP) y x) l
    have hsort : CallOk Tryz.prog 132 [.ms 5 l.length, .fn (.func 133) [] []] [Box.var [ii s, .sl z (ls.map encLb)] false, .var [ii limb] false, .map (l.map PP.pv) ((l.map PP.pl).map fun _ => .bool true) false, .var [.mp 2] false, .var [.ms 5 l.length] false, .row (decide (l.length = 0)) 36 2 (l.map PP.pv) false, .gone] (.ret (.tuple [])) [Box.var [ii s, .sl z (ls.map encLb)] false, .var [ii limb] false, .map (l.map PP.pv) ((l.map PP.pl).map fun _ => .bool true) false, .var [.mp 2] false, .var [.ms 5 l.length] false, .row (decide (l.length = 0)) 36 2 ((l.mergeSort fun x y => !(Go.Proofs.ltOf cmpP) y x).map PP.pv) false, .gone] :=
      CallOk.sortFunc Tryz.sort132 Tryz.isAgg36 Tryz.sizeOf36 (ent Tryz.func133 rfl) swo_cmp tot_cmp ordered_133 (bi := 5) (z := decide (l.length = 0)) (e := 36) (l := l) rfl rfl (by omega)
    generalize (l.mergeSort fun x y => !(Go.Proofs.ltOf cmpP) y x) = l2 at hm hml hsort
    have hpc : closedL (l2.map PP.pv) = true := closedL_map (fun _ => rfl) l2
    have hpl : plsP (putsP (endL s ls limb T)) = .sl (if decide (l.length = 0) = true then .n else .a) (l2.map PP.pv) := by
      unfold plsP
      rw [← hm, List.length_map, hml, ← pv_pl]
    rw [hpl]
    have hsl : SameLoops [Box.var [ii s, .sl z (ls.map encLb)] false, .var [ii limb] false, .map (l.map PP.pv) ((l.map PP.pl).map fun _ => .bool true) false, .var [.mp 2] false, .var [.ms 5 l.length] false, .row (decide (l.length = 0)) 36 2 (l.map PP.pv) false, .gone] [Box.var [ii s, .sl z (ls.map encLb)] false, .var [ii limb] false, .map (l.map PP.pv) ((l.map PP.pl).map fun _ => .bool true) false, .var [.mp 2] false, .var [.ms 5 l.length] false, .row (decide (l.length = 0)) 36 2 (l2.map PP.pv) false, .gone] := sameLoops_of _ _ rfl
    repeat (first | (with_reducible (first | apply wA | apply wB | apply wC | apply wD | apply wE | apply wF | apply wG | apply wH | apply wI | apply wJ | apply wK | apply wL | apply wM | apply wN | apply wO | apply wP | apply wQ rfl | apply wR | apply wS | apply wT | apply wU)) | ((with_reducible (first | apply wV | apply wW | apply wX | (apply wY [] hTT (cfOne_ok cf0_ok (ent Tryz.func132 rfl) hsort hsl) noM_ok mixed; (focus kernel_rfl)))); (focus (simp only [Tryz.f89, cfOne, List.length_map, go_sem]; with_reducible rfl))) | (with_reducible refine wZ hTT (cfOne_ok cf0_ok (ent Tryz.func132 rfl) hsort hsl) noM_ok ?_) | (with_reducible refine wa ?_; refine And.intro ?_ ?_; (focus kernel_rfl)))
    refine ⟨rfl, rfl, _, rfl, ?_⟩
    exact leave_row (id := 5) rfl hpc (by simp [hml])
end Go.Pv
