/- Contracts: try where what it is given panics; the bounds of turns, or that there are none. -/
import Derived.Test.YtmnocohggpmjcaaGreatDoorQvTurns
import Derived.Test.YtmnocohggpmjcaaGreatDoorQgEnds
import Derived.Test.YtmnocohggpmjcaaGreatDoorQlIter
set_option linter.all false
namespace Go.Pv
open Go Go.RowKit Go.Proofs
set_option maxRecDepth 10000
set_option maxHeartbeats 4000000
theorem run_of {P : Program} {c : Code} {st s0 : St} {o0 : Out} (h : RunQ P c st (fun o s => o = o0 ∧ s = s0)) : Run P c st o0 s0 := by
  obtain ⟨o, s, hr, rfl, rfl⟩ := h
  exact hr
theorem try_pan {g : FuncId} {fa cap : List PV} {sg sg2 : List Box} {lim : Int} {c : PV} (he : Enters Tryz.prog g) (hc : CallOk Tryz.prog g (fa ++ ([] ++ cap)) (sg ++ [.var [ii 0] false]) (.pan (.iface 192 (.agg [ii lim]))) sg2) (hsl : SameLoops (sg ++ [.var [ii 0] false]) sg2)
    (hb : sg2[sg.length]? = some (.var [c] false)) : CallOk Tryz.prog 93 [.fn (.func g) fa cap] sg (.ret (ii 7)) ((sg2 ++ [Box.var [ii lim] false]).set sg.length (.var [ii 7] false)) := by
  have hsl0 : SameLoops sg sg2 := by
    refine ⟨fun id lr h => hsl.1 id lr (by rw [List.getElem?_append_left (List.getElem?_eq_some_iff.1 h).1]; exact h), fun id lr h => ?_⟩
    obtain ⟨lr', h'⟩ := hsl.2 id lr h
    by_cases hid : id < sg.length
    · rw [List.getElem?_append_left hid] at h'; exact ⟨lr', h'⟩
    · rw [List.getElem?_append_right (by omega)] at h'
      have := (List.getElem?_eq_some_iff.1 h').1
      simp at this
      have e : id - sg.length = 0 := by omega
      rw [e] at h'
      cases h'
  have hlt : sg.length < sg2.length := (List.getElem?_eq_some_iff.1 hb).1
  have hb2 : (sg2 ++ [Box.var [ii lim] false])[sg.length]? = some (.var [c] false) := by rw [List.getElem?_append_left hlt]; exact hb
  have hb3 : ((sg2 ++ [Box.var [ii lim] false]).set sg.length (.var [ii 7] false))[sg.length]? = some (.var [ii 7] false) := List.getElem?_set_self (by simp; omega)
  have hc1 : PRun Tryz.prog (.region 0 #[{ dst := some 2, op := .alloc 31, type := 0, pos := "joint.go:198", after := #[], guard := none }] false) ⟨argT 0 [.fn (.func g) fa cap], 6, sg⟩ .normal ⟨[(2, .bp sg.length 0), (0, .fn (.func g) fa cap)], 6, sg ++ [.var [ii 0] false]⟩ :=
    PRun.regionL hTT (by simp only [plainO, set_last, go_sem])
  refine CallOk.deferring (st1 := ⟨[(2, .bp sg.length 0), (0, .fn (.func g) fa cap)], 6, sg ++ [.var [ii 0] false]⟩) (st2 := ⟨[(4, .fn (.func g) fa cap), (3, .fn (.func 139) [] [.bp sg.length 0]), (2, .bp sg.length 0), (0, .fn (.func g) fa cap)], 6, sg2⟩) (m := .pan (.iface 192 (.agg [ii lim])))
    (st3 := ⟨[(2, .bp sg2.length 0), (10, .agg [ii lim]), (9, .bool true), (8, .tuple [.agg [ii lim], .bool true]), (7, .bool false), (5, .iface 192 (.agg [ii lim])), (0, .bp sg.length 0)], 14, (sg2 ++ [Box.var [ii lim] false]).set sg.length (.var [ii 7] false)⟩) (idv := sg.length) hTT Tryz.func93 rfl Tryz.func139 rfl rfl (by decide) (ent Tryz.func139 rfl) hc1 rfl (of_decide_eq_true rfl) ?_ ?_ ?_ ?_ ?_
  · refine run_of ?_
    repeat (first | (with_reducible (first | apply wA | apply wB | apply wC | apply wD | apply wE | apply wF | apply wG | apply wH | apply wI | apply wJ | apply wK | apply wL | apply wM | apply wN | apply wO | apply wP | apply wQ rfl | apply wR | apply wS | apply wT | apply wU)) | ((with_reducible (first | apply wV | apply wW | apply wX | (apply wY [] hTT (cfOne_ok cf0_ok he hc hsl) noM_ok mixed; (focus kernel_rfl)))); (focus (simp only [Tryz.f93, cfOne, go_sem]; with_reducible rfl))) | (with_reducible refine wZ hTT (cfOne_ok cf0_ok he hc hsl) noM_ok ?_) | (with_reducible refine wa ?_; refine And.intro ?_ ?_; (focus kernel_rfl)))
    refine RegQ.stop (v := .iface 192 (.agg [ii lim])) (st1 := ⟨[(4, .fn (.func g) fa cap), (3, .fn (.func 139) [] [.bp sg.length 0]), (2, .bp sg.length 0), (0, .fn (.func g) fa cap)], 6, sg2⟩) (by simp only [cfOne, go_sem]) ?_
    repeat (first | (with_reducible (first | apply wA | apply wB | apply wC | apply wD | apply wE | apply wF | apply wG | apply wH | apply wI | apply wJ | apply wK | apply wL | apply wM | apply wN | apply wO | apply wP | apply wQ rfl | apply wR | apply wS | apply wT | apply wU)) | ((with_reducible (first | apply wV | apply wW | apply wX | (apply wY [] hTT cf0_ok noM_ok mixed; (focus kernel_rfl)))); (focus (simp only [Tryz.f93, go_sem]; with_reducible rfl))) | (with_reducible refine wZ hTT cf0_ok noM_ok ?_) | (with_reducible refine wa ?_; refine And.intro ?_ ?_; (focus kernel_rfl)))
    exact ⟨rfl, rfl⟩
  · refine PRun.block (out := .normal) (PRun.seq (st1 := ⟨[(7, .bool false), (5, .iface 192 (.agg [ii lim])), (0, .bp sg.length 0)], 14, sg2⟩) (PRun.regionL hTT rfl) (PRun.cond (b := false) rfl
      (PRun.seq (st1 := ⟨[(10, .agg [ii lim]), (9, .bool true), (8, .tuple [.agg [ii lim], .bool true]), (7, .bool false), (5, .iface 192 (.agg [ii lim])), (0, .bp sg.length 0)], 14, sg2⟩) (PRun.regionL hTT rfl) (PRun.cond (b := true) rfl
        (PRun.seq (st1 := ⟨[(2, .bp sg2.length 0), (10, .agg [ii lim]), (9, .bool true), (8, .tuple [.agg [ii lim], .bool true]), (7, .bool false), (5, .iface 192 (.agg [ii lim])), (0, .bp sg.length 0)], 14, sg2 ++ [.var [ii lim] false]⟩) (PRun.regionL hTT (by simp only [plainO, set_last, get_last, go_sem])) (PRun.regionL hTT (by simp only [plainO, hb2, go_sem])))))))
  · simp only [Tryz.f93, hb3, go_sem]
  · exact hsl0
  · show sg.length < (sg ++ [_]).length
    simp
theorem turns_ret (s : Int) (z : Z) (ls : List Lb) (limb : Int) (p : Pl) (hzo : zOk z (ls.map encLb) = true) (hf : figB s ls = true) (hli : 0 ≤ limb ∧ limb < ls.length) {x : List Int} {M : List (List Int)} (hM : matG s ls limb p = x :: M) :
    CallOk Tryz.prog 95 [.agg [ii s, .sl z (ls.map encLb)], ii limb, .agg [ii p.1, ii p.2]] [] (.ret (.sl .a ((bndG (x :: M)).map spE))) [] := by
  refine CallOk.ofF hTT Tryz.func95 rfl rfl ?_
  have h := turns_run s z ls limb p hzo hf hli _ rfl
  rw [hM] at h
  exact h
theorem turns_pan (s : Int) (z : Z) (ls : List Lb) (limb : Int) (p : Pl) (hzo : zOk z (ls.map encLb) = true) (hf : figB s ls = true) (hli : 0 ≤ limb ∧ limb < ls.length) (hM : matG s ls limb p = []) :
    CallOk Tryz.prog 95 [.agg [ii s, .sl z (ls.map encLb)], ii limb, .agg [ii p.1, ii p.2]] [] (.pan (.iface 192 (.agg [ii limb]))) [] := by
  refine CallOk.ofPan Tryz.func95 rfl rfl ?_ (lt_of_closed (.iface 192 (.agg [ii limb])) rfl)
  have h := turns_run s z ls limb p hzo hf hli _ rfl
  rw [hM] at h
  exact h
/-- What Known returns. -/
def knownV : List (List Int) → PV
  | [] => .tuple [.sl .n [], ii 7]
  | x :: M => .tuple [.sl .a ((bndG (x :: M)).map spE), ii 0]
def knownR (s : Int) (ls : List Lb) (limb : Int) (p : Pl) : PV := if figB s ls = true ∧ limbG ls limb = true then knownV (matG s ls limb p) else .tuple [.sl .n [], ii 2]
def cfKc : CallF := cfAdd (cfAdd cf0 85 c85) 88 c88
theorem cfKc_ok : CallFOk Tryz.prog cfKc := cfAdd_ok (cfAdd_ok cf0_ok c85_ok) c88_ok
theorem Known_37 (s : Int) (z : Z) (ls : List Lb) (limb : Int) (p : Pl) (hzo : zOk z (ls.map encLb) = true) :
    CallOk Tryz.prog 37 [.agg [ii s, .sl z (ls.map encLb)], ii limb, .agg [ii p.1, ii p.2]] [] (.ret (knownR s ls limb p)) [] := by
  refine CallOk.ofF hTT Tryz.func37 rfl rfl ?_
  have hd := decFig_enc s z ls hzo
  unfold knownR
  cases a0 : figB s ls
  · repeat (first | (with_reducible (first | apply wA | apply wB | apply wC | apply wD | apply wE | apply wF | apply wG | apply wH | apply wI | apply wJ | apply wK | apply wL | apply wM | apply wN | apply wO | apply wP | apply wQ rfl | apply wR | apply wS | apply wT | apply wU)) | ((with_reducible (first | apply wV | apply wW | apply wX | (apply wY [] hTT cfKc_ok noM_ok mixed; (focus kernel_rfl)))); (focus (simp only [Tryz.f37, cfKc, c85, hd, a0, notYield, go_sem]; with_reducible rfl))) | (with_reducible refine wZ hTT cfKc_ok noM_ok ?_) | (with_reducible refine wa ?_; refine And.intro ?_ ?_; (focus kernel_rfl)))
    exact ⟨rfl, rfl, _, rfl, leave_closed rfl⟩
  have hl := fig_len a0
  have hs : ls.length ≤ maxLen := by unfold maxLen; omega
  cases a1 : limbG ls limb
  · repeat (first | (with_reducible (first | apply wA | apply wB | apply wC | apply wD | apply wE | apply wF | apply wG | apply wH | apply wI | apply wJ | apply wK | apply wL | apply wM | apply wN | apply wO | apply wP | apply wQ rfl | apply wR | apply wS | apply wT | apply wU)) | ((with_reducible (first | apply wV | apply wW | apply wX | (apply wY [] hTT cfKc_ok noM_ok mixed; (focus kernel_rfl)))); (focus (simp only [Tryz.f37, cfKc, c85, c88, hd, a0, a1, hs, notYield, go_sem]; with_reducible rfl))) | (with_reducible refine wZ hTT cfKc_ok noM_ok ?_) | (with_reducible refine wa ?_; refine And.intro ?_ ?_; (focus kernel_rfl)))
    exact ⟨rfl, rfl, _, rfl, leave_closed rfl⟩
  have hli : 0 ≤ limb ∧ limb < ls.length := by
    unfold limbG at a1
    simp [inB] at a1; omega
  rw [if_pos ⟨rfl, rfl⟩]
  have hcf : closedL [ii s, .sl z (ls.map encLb)] = true := by simp [closedL, PV.closed, closedL_lbs]
  have hbl : ∀ v : PV, v.closed = true → ∀ b ∈ [Box.var [ii s, .sl z (ls.map encLb)] false, .var [ii limb] false, .var [ii p.1, ii p.2] false, .var [v] false], b.Lt 4 := fun v hv x hx => by
    simp only [List.mem_cons, List.not_mem_nil, or_false] at hx
    rcases hx with rfl | rfl | rfl | rfl
    · exact fun c hc => (lt_of_closedL _ hcf c hc).mono (Nat.zero_le _)
    · exact fun c hc => (lt_of_closedL _ (show closedL [ii limb] = true from rfl) c hc).mono (Nat.zero_le _)
    · exact fun c hc => (lt_of_closedL _ (show closedL [ii p.1, ii p.2] = true from rfl) c hc).mono (Nat.zero_le _)
    · exact fun c hc => by
        simp only [List.mem_cons, List.not_mem_nil, or_false] at hc
        subst hc
        exact (lt_of_closed _ hv).mono (Nat.zero_le _)
  have hla : ∀ x ∈ [PV.agg [ii s, .sl z (ls.map encLb)], ii limb, .agg [ii p.1, ii p.2]], Pv.Lt 0 x := fun x hx => by
    simp only [List.mem_cons, List.not_mem_nil, or_false] at hx
    rcases hx with rfl | rfl | rfl
    · exact lt_of_closed _ (show (PV.agg [ii s, .sl z (ls.map encLb)]).closed = true from hcf)
    · exact lt_of_closed _ rfl
    · exact lt_of_closed _ rfl
  cases hM : matG s ls limb p with
  | nil =>
    have ht := turns_pan s z ls limb p hzo a0 hli hM
    have h94 : CallOk Tryz.prog 94 ([] ++ ([] ++ [.bp 0 0, .bp 1 0, .bp 2 0, .bp 3 0])) ([Box.var [ii s, .sl z (ls.map encLb)] false, .var [ii limb] false, .var [ii p.1, ii p.2] false, .var [.sl .n []] false] ++ [.var [ii 0] false]) (.pan (.iface 192 (.agg [ii limb]))) ([Box.var [ii s, .sl z (ls.map encLb)] false, .var [ii limb] false, .var [ii p.1, ii p.2] false, .var [.sl .n []] false] ++ [.var [ii 0] false]) := by
      have hfr := ht.framePan hla ([Box.var [ii s, .sl z (ls.map encLb)] false, .var [ii limb] false, .var [ii p.1, ii p.2] false, .var [.sl .n []] false] ++ [.var [ii 0] false])
      refine CallOk.ofPanB Tryz.func94 rfl rfl ?_ rfl (fun b hb => ?_) (lt_of_closed (.iface 192 (.agg [ii limb])) rfl |>.mono (Nat.zero_le _))
      · repeat (first | (with_reducible (first | apply wA | apply wB | apply wC | apply wD | apply wE | apply wF | apply wG | apply wH | apply wI | apply wJ | apply wK | apply wL | apply wM | apply wN | apply wO | apply wP | apply wQ rfl | apply wR | apply wS | apply wT | apply wU)) | ((with_reducible (first | apply wV | apply wW | apply wX | (apply wY [] hTT (cfOne_ok cf0_ok (ent Tryz.func95 rfl) hfr (SameLoops.refl _)) noM_ok mixed; (focus kernel_rfl)))); (focus (simp only [Tryz.f94, cfOne, go_sem]; with_reducible rfl))) | (with_reducible refine wZ hTT (cfOne_ok cf0_ok (ent Tryz.func95 rfl) hfr (SameLoops.refl _)) noM_ok ?_) | (with_reducible refine wa ?_; refine And.intro ?_ ?_; (focus kernel_rfl)))
        refine RegQ.stop (v := .iface 192 (.agg [ii limb])) (by simp only [cfOne, go_sem]; rfl) ?_
        repeat (first | (with_reducible (first | apply wA | apply wB | apply wC | apply wD | apply wE | apply wF | apply wG | apply wH | apply wI | apply wJ | apply wK | apply wL | apply wM | apply wN | apply wO | apply wP | apply wQ rfl | apply wR | apply wS | apply wT | apply wU)) | ((with_reducible (first | apply wV | apply wW | apply wX | (apply wY [] hTT cf0_ok noM_ok mixed; (focus kernel_rfl)))); (focus (simp only [Tryz.f94, go_sem]; with_reducible rfl))) | (with_reducible refine wZ hTT cf0_ok noM_ok ?_) | (with_reducible refine wa ?_; refine And.intro ?_ ?_; (focus kernel_rfl)))
        exact ⟨rfl, SameLoops.refl _, [], by simp⟩
      · rcases List.mem_append.1 hb with hb | hb
        · exact (hbl _ rfl b hb).mono (by simp)
        · simp only [List.mem_cons, List.not_mem_nil, or_false] at hb
          subst hb
          exact fun c hc => (lt_of_closedL _ (show closedL [ii 0] = true from rfl) c hc).mono (Nat.zero_le _)
    have h93 : CallOk Tryz.prog 93 [.fn (.func 94) [] [.bp 0 0, .bp 1 0, .bp 2 0, .bp 3 0]] [Box.var [ii s, .sl z (ls.map encLb)] false, .var [ii limb] false, .var [ii p.1, ii p.2] false, .var [.sl .n []] false] (.ret (ii 7)) [Box.var [ii s, .sl z (ls.map encLb)] false, .var [ii limb] false, .var [ii p.1, ii p.2] false, .var [.sl .n []] false] := (try_pan (ent Tryz.func94 rfl) h94 (SameLoops.refl _) rfl).cut (hbl (.sl .n []) rfl) .int
    unfold knownV
    have b70 : ((7 : Int) != 0) = true := rfl
    repeat (first | (with_reducible (first | apply wA | apply wB | apply wC | apply wD | apply wE | apply wF | apply wG | apply wH | apply wI | apply wJ | apply wK | apply wL | apply wM | apply wN | apply wO | apply wP | apply wQ rfl | apply wR | apply wS | apply wT | apply wU)) | ((with_reducible (first | apply wV | apply wW | apply wX | (apply wY [] hTT (cfOne_ok cfKc_ok (ent Tryz.func93 rfl) h93 (SameLoops.refl _)) noM_ok mixed; (focus kernel_rfl)))); (focus (simp only [Tryz.f37, b70, cfOne, cfKc, c85, c88, hd, a0, a1, hs, notYield, go_sem]; with_reducible rfl))) | (with_reducible refine wZ hTT (cfOne_ok cfKc_ok (ent Tryz.func93 rfl) h93 (SameLoops.refl _)) noM_ok ?_) | (with_reducible refine wa ?_; refine And.intro ?_ ?_; (focus kernel_rfl)))
    exact ⟨rfl, rfl, _, rfl, leave_closed rfl⟩
  | cons x M =>
    have ht := turns_ret s z ls limb p hzo a0 hli hM
    generalize hB : (bndG (x :: M)).map spE = B at ht
    have hBc : closedL B = true := by rw [← hB]; exact closedL_sp _
    have hbv : (PV.sl .a B).closed = true := hBc
    have hsl1 : SameLoops ([Box.var [ii s, .sl z (ls.map encLb)] false, .var [ii limb] false, .var [ii p.1, ii p.2] false, .var [.sl .n []] false] ++ [.var [ii 0] false]) ([Box.var [ii s, .sl z (ls.map encLb)] false, .var [ii limb] false, .var [ii p.1, ii p.2] false, .var [.sl .a B] false] ++ [.var [ii 0] false]) := sameLoops_of _ _ rfl
    have h94 : CallOk Tryz.prog 94 ([] ++ ([] ++ [.bp 0 0, .bp 1 0, .bp 2 0, .bp 3 0])) ([Box.var [ii s, .sl z (ls.map encLb)] false, .var [ii limb] false, .var [ii p.1, ii p.2] false, .var [.sl .n []] false] ++ [.var [ii 0] false]) (.ret (.tuple [])) ([Box.var [ii s, .sl z (ls.map encLb)] false, .var [ii limb] false, .var [ii p.1, ii p.2] false, .var [.sl .a B] false] ++ [.var [ii 0] false]) := by
      have hfr := ht.frame hla ([Box.var [ii s, .sl z (ls.map encLb)] false, .var [ii limb] false, .var [ii p.1, ii p.2] false, .var [.sl .n []] false] ++ [.var [ii 0] false])
      refine CallOk.ofB hTT Tryz.func94 rfl rfl ?_ rfl (fun b hb => ?_) (.tuple (fun c hc => by cases hc))
      · repeat (first | (with_reducible (first | apply wA | apply wB | apply wC | apply wD | apply wE | apply wF | apply wG | apply wH | apply wI | apply wJ | apply wK | apply wL | apply wM | apply wN | apply wO | apply wP | apply wQ rfl | apply wR | apply wS | apply wT | apply wU)) | ((with_reducible (first | apply wV | apply wW | apply wX | (apply wY [] hTT (cfOne_ok cf0_ok (ent Tryz.func95 rfl) hfr (SameLoops.refl _)) noM_ok mixed; (focus kernel_rfl)))); (focus (simp only [Tryz.f94, cfOne, go_sem]; with_reducible rfl))) | (with_reducible refine wZ hTT (cfOne_ok cf0_ok (ent Tryz.func95 rfl) hfr (SameLoops.refl _)) noM_ok ?_) | (with_reducible refine wa ?_; refine And.intro ?_ ?_; (focus kernel_rfl)))
        exact ⟨rfl, hsl1, rfl, [], by simp⟩
      · rcases List.mem_append.1 hb with hb | hb
        · exact (hbl _ hbv b hb).mono (by simp)
        · simp only [List.mem_cons, List.not_mem_nil, or_false] at hb
          subst hb
          exact fun c hc => (lt_of_closedL _ (show closedL [ii 0] = true from rfl) c hc).mono (Nat.zero_le _)
    have h93 : CallOk Tryz.prog 93 [.fn (.func 94) [] [.bp 0 0, .bp 1 0, .bp 2 0, .bp 3 0]] [Box.var [ii s, .sl z (ls.map encLb)] false, .var [ii limb] false, .var [ii p.1, ii p.2] false, .var [.sl .n []] false] (.ret (ii 0)) [Box.var [ii s, .sl z (ls.map encLb)] false, .var [ii limb] false, .var [ii p.1, ii p.2] false, .var [.sl .a B] false] := (try_core (ent Tryz.func94 rfl) h94 hsl1 rfl).cut (hbl (.sl .a B) hbv) .int
    have hsl2 : SameLoops [Box.var [ii s, .sl z (ls.map encLb)] false, .var [ii limb] false, .var [ii p.1, ii p.2] false, .var [.sl .n []] false] [Box.var [ii s, .sl z (ls.map encLb)] false, .var [ii limb] false, .var [ii p.1, ii p.2] false, .var [.sl .a B] false] := sameLoops_of _ _ rfl
    unfold knownV
    dsimp only
    rw [hB]
    repeat (first | (with_reducible (first | apply wA | apply wB | apply wC | apply wD | apply wE | apply wF | apply wG | apply wH | apply wI | apply wJ | apply wK | apply wL | apply wM | apply wN | apply wO | apply wP | apply wQ rfl | apply wR | apply wS | apply wT | apply wU)) | ((with_reducible (first | apply wV | apply wW | apply wX | (apply wY [] hTT (cfOne_ok cfKc_ok (ent Tryz.func93 rfl) h93 hsl2) noM_ok mixed; (focus kernel_rfl)))); (focus (simp only [Tryz.f37, cfOne, cfKc, c85, c88, hd, a0, a1, hs, notYield, go_sem]; with_reducible rfl))) | (with_reducible refine wZ hTT (cfOne_ok cfKc_ok (ent Tryz.func93 rfl) h93 hsl2) noM_ok ?_) | (with_reducible refine wa ?_; refine And.intro ?_ ?_; (focus kernel_rfl)))
    exact ⟨rfl, rfl, _, rfl, leave_closed (show closedL [.sl .a B, ii 0] = true from by simp [closedL, PV.closed, hBc])⟩
def c37 : List PV → List Box → Option (PRes × List Box)
  | [v, .int .i64 n, w], sg => match decFig v, decPl w with
    | some (s, ls), some p => some (.ret (knownR s ls n p), sg)
    | _, _ => none
  | _, _ => none
theorem c37_ok : ConOk Tryz.prog 37 c37 := ConOk.of0 (ent Tryz.func37 rfl) fun args sg r sg' h => by
  unfold c37 at h
  split at h <;> try (cases h; done)
  split at h <;> cases h
  rename_i h1 h2
  obtain ⟨z, rfl, hz⟩ := decFig_inv h1
  obtain rfl := decPl_inv _ _ h2
  exact ⟨_, rfl, rfl, by rw [ltBL_cons, ltB_fig]; rfl, Known_37 _ _ _ _ _ (zOk_n' hz)⟩
end Go.Pv
