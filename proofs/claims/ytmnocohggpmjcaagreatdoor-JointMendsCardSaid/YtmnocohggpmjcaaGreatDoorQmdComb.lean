/- A variable that is frozen in the middle of a walk; lists of lists; ContainsFunc over them, at any closure. -/
import Derived.Test.YtmnocohggpmjcaaGreatDoorQwOrdered
import Derived.Test.YtmnocohggpmjcaaGreatDoorQgEnds
import Derived.Test.YtmnocohggpmjcaaGreatDoorQmLists
import Derived.Test.YtmnocohggpmjcaaGreatDoorQzMend
import Derived.Test.YtmnocohggpmjcaaGreatDoorQuRef
import Derived.Test.YtmnocohggpmjcaaGreatDoorQlTop
set_option linter.all false
namespace Go.Pv
open Go Go.RowKit Go.Proofs
set_option maxRecDepth 200000
set_option maxHeartbeats 8000000
theorem Ghost.fzVar (t id : Nat) {tm tm' : List (Nat × PV)} {n : Nat} {sg sg' : List Box} {cs : List PV} (h : getT tm t = some (.bp id 0)) (hb : sg[id]? = some (.var cs false)) (e1 : sg.set id (.var cs true) = sg') (e2 : putT tm t (.ip cs) = tm') : Ghost ⟨tm, n, sg⟩ ⟨tm', n, sg'⟩ := by
  refine ⟨by rw [← e1]; simp, fun r G a w db hs => ?_⟩
  obtain ⟨u, hu, hru⟩ := hs.tm t _ h
  obtain ⟨G1, a1, a2, a3, a4, _⟩ := frz1_ok hs.rel (some 0) hru
  have e : frz1 (some 0) sg (.bp id 0) = (.ip cs, sg') := by
    unfold frz1
    simp [hb, e1]
  have a1 : Rel G1 (frz1 (some 0) sg (.bp id 0)).2 w := a1
  have a4 : Rep G1 (frz1 (some 0) sg (.bp id 0)).1 u := a4
  rw [e] at a1 a4
  refine ⟨G1, ⟨a1, fun s x hx => ?_, hs.n, by rw [a3]; exact hs.dfr, fun l hl => ?_⟩, a2.leM _⟩
  · have hxx : getT tm' s = some x := hx
    clear hx
    rw [← e2, getT_putT] at hxx
    split at hxx
    · rename_i hst
      subst hst
      cases hxx
      exact ⟨u, hu, a4⟩
    · obtain ⟨y, hy, hr⟩ := hs.tm s x hxx
      exact ⟨y, hy, hr.mono a2⟩
  · obtain ⟨i, d, lr, h1, h2⟩ := hs.rd l hl
    obtain ⟨s', e3, hle⟩ := a2.rho i _ h1
    cases s' <;> simp only [Slot.le] at hle
    obtain ⟨rfl, rfl⟩ := hle
    refine ⟨i, d, lr, e3, ?_⟩
    have h2 : sg[i]? = some (.loop lr) := h2
    show sg'[i]? = _
    rw [← e1]
    by_cases hi : id = i
    · subst hi
      rw [hb] at h2
      cases h2
    · rw [List.getElem?_set_ne hi]
      exact h2
/-- A variable is frozen: its address is that of cells that stay. -/
theorem RunQ.fzVar {P : Program} {c : Code} {Q : Out → St → Prop} (t id : Nat) {tm tm' : List (Nat × PV)} {n : Nat} {sg sg' : List Box} {cs : List PV} (h : getT tm t = some (.bp id 0)) (hb : sg[id]? = some (.var cs false)) (e1 : sg.set id (.var cs true) = sg') (e2 : putT tm t (.ip cs) = tm') (hq : RunQ P c ⟨tm', n, sg'⟩ Q) : RunQ P c ⟨tm, n, sg⟩ Q :=
  RunQ.pre (Ghost.fzVar t id h hb e1 e2) hq
abbrev Qi := Z × List Int
def encQ (q : Qi) : PV := .sl q.1 (q.2.map ii)
def decQ : PV → Option Qi
  | .sl z es => match decL decI es with
    | some l => some (z, l)
    | none => none
  | _ => none
theorem decQ_inv (x : PV) (q : Qi) (h : decQ x = some q) : x = encQ q := by
  unfold decQ at h
  split at h <;> try (cases h; done)
  split at h <;> cases h
  rename_i h1
  obtain rfl := decL_inv decI_inv h1
  rfl
theorem decQ_enc (q : Qi) : decQ (encQ q) = some q := by
  show (match decL decI (q.2.map ii) with | some l => some (q.1, l) | none => none) = some q
  rw [decIs]
theorem decQs (L : List Qi) : decL decQ (L.map encQ) = some L := decL_map (g := encQ) decQ_enc L
theorem closed_Q (q : Qi) : (encQ q).closed = true := closedL_is q.2
theorem closedL_Qs (L : List Qi) : closedL (L.map encQ) = true := closedL_map closed_Q L
theorem ltB_Qs (m : Nat) (L : List Qi) : ltBL m (L.map encQ) = true := ltBL_of_closed m _ (closedL_Qs L)
/-- The lists are such as can be. -/
def qsB (L : List Qi) : Bool := L.all fun q => zOk q.1 (q.2.map ii)
theorem qsB_at {L : List Qi} (h : qsB L = true) {i : Nat} {q : Qi} (hq : L[i]? = some q) : zOk q.1 (q.2.map ii) = true := List.all_eq_true.1 h q (List.mem_of_getElem? hq)
def idxA (p : Qi → Bool) : List Qi → Nat → Int
  | [], _ => -1
  | q :: r, i => if p q = true then (i : Int) else idxA p r (i + 1)
theorem idxA_cons (p : Qi → Bool) (q : Qi) (r : List Qi) (i : Nat) : idxA p (q :: r) i = if p q = true then (i : Int) else idxA p r (i + 1) := rfl
theorem idxA_any (p : Qi → Bool) : ∀ (L : List Qi) (i : Nat), decide (0 ≤ idxA p L i) = L.any p
  | [], _ => rfl
  | q :: r, i => by
    rw [idxA_cons, List.any_cons]
    cases h : p q
    · rw [if_neg (by simp), Bool.false_or]
      exact idxA_any p r (i + 1)
    · rw [if_pos rfl]
      simp
theorem index_148 {g : FuncId} {c : PV} (z : Z) (L : List Qi) (p : Qi → Bool) (he : Enters Tryz.prog g) (hc : c.closed = true) (hz : z = .n → L = []) (hl : L.length ≤ 100000) (h : ∀ q ∈ L, CallOk Tryz.prog g [encQ q, c] [] (.ret (.bool (p q))) []) :
    CallOk Tryz.prog 148 [.sl z (L.map encQ), .fn (.func g) [] [c]] [] (.ret (ii (idxA p L 0))) [] := by
  refine CallOk.of0 hTT Tryz.func148 rfl rfl ?_
  have hcl : ∀ m, c.ltB m = true := fun m => ltB_of_closed m _ hc
  repeat (first | (with_reducible (first | apply wA | apply wB | apply wC | apply wD | apply wE | apply wF | apply wG | apply wH | apply wI | apply wJ | apply wK | apply wL | apply wM | apply wN | apply wO | apply wP | apply wQ rfl | apply wR | apply wS | apply wT | apply wU)) | ((with_reducible (first | apply wV | apply wW | apply wX | (apply wY [] hTT cf0_ok noM_ok mixed; (focus kernel_rfl)))); (focus (simp only [Tryz.f148, go_sem]; with_reducible rfl))) | (with_reducible refine wZ hTT cf0_ok noM_ok ?_) | (with_reducible refine wa ?_; refine And.intro ?_ ?_; (focus kernel_rfl)))
  refine RunQ.keep [8, 7, 6, 4, 0, 1] (by simp only [go_sem]; rfl) ?_
  refine RunQ.loop (fun i s' => idxA p L 0 = idxA p (L.drop i) i ∧ s' = ⟨[(8, ii i), (7, ii L.length), (6, .sl z (L.map encQ)), (4, ii 0), (0, .sl z (L.map encQ)), (1, .fn (.func g) [] [c])], 19, []⟩) L.length ⟨rfl, by simp only [go_sem]⟩ ?_
  rintro i _ hi ⟨hm, rfl⟩
  by_cases hlt : i < L.length
  · obtain ⟨q, hq⟩ : ∃ q, L[i]? = some q := ⟨_, List.getElem?_eq_getElem hlt⟩
    have hq' : (L.map encQ)[i]? = some (.sl q.1 (q.2.map ii)) := by rw [List.getElem?_map, hq]; rfl
    have hlt' : (i : Int) < L.length := by omega
    have hz' : z ≠ .n := fun e => by rw [hz e] at hlt; simp at hlt
    have e4 : IntKind.i64.wrap ((i : Int) + 1) = ((i + 1 : Nat) : Int) := wrap_id (by omega) (by omega)
    rw [drop_get hq, idxA_cons] at hm
    have hcall : CallOk Tryz.prog g [.sl q.1 (q.2.map ii), c] [] (.ret (.bool (p q))) [] := h q (List.mem_of_getElem? hq)
    have hltb : ltBL 0 [PV.sl q.1 (q.2.map ii), c] = true := by rw [ltBL_cons, ltB_isl, ltBL_cons, hcl]; rfl
    cases hpq : p q
    · rw [hpq] at hm hcall
      repeat (first | (with_reducible (first | apply wA | apply wB | apply wC | apply wD | apply wE | apply wF | apply wG | apply wH | apply wI | apply wJ | apply wK | apply wL | apply wM | apply wN | apply wO | apply wP | apply wQ rfl | apply wR | apply wS | apply wT | apply wU)) | ((with_reducible (first | apply wV | apply wW | apply wX | (apply wY [] hTT (cfAt_ok cf0_ok he hcall hltb) noM_ok mixed; (focus kernel_rfl)))); (focus (simp only [Tryz.f148, cfAt, hlt', hq', hz', e4, List.length_map, go_sem]; with_reducible rfl))) | (with_reducible refine wZ hTT (cfAt_ok cf0_ok he hcall hltb) noM_ok ?_) | (with_reducible refine wa ?_; refine And.intro ?_ ?_; (focus kernel_rfl)))
      refine roundQ.t 0 [8, 7, 6, 4, 0, 1] hlt (by simp only [ltB_Qs, ltB_sl, hcl, go_sem]) ⟨by rw [hm]; rfl, by simp only [go_sem]⟩
    · rw [hpq] at hm hcall
      have hm : idxA p L 0 = (i : Int) := hm
      rw [hm]
      repeat (first | (with_reducible (first | apply wA | apply wB | apply wC | apply wD | apply wE | apply wF | apply wG | apply wH | apply wI | apply wJ | apply wK | apply wL | apply wM | apply wN | apply wO | apply wP | apply wQ rfl | apply wR | apply wS | apply wT | apply wU)) | ((with_reducible (first | apply wV | apply wW | apply wX | (apply wY [] hTT (cfAt_ok cf0_ok he hcall hltb) noM_ok mixed; (focus kernel_rfl)))); (focus (simp only [Tryz.f148, cfAt, hlt', hq', hz', e4, List.length_map, go_sem]; with_reducible rfl))) | (with_reducible refine wZ hTT (cfAt_ok cf0_ok he hcall hltb) noM_ok ?_) | (with_reducible refine wa ?_; refine And.intro ?_ ?_; (focus kernel_rfl)))
      exact ⟨rfl, rfl, _, rfl, rfl⟩
  · have hlt' : ¬ (i : Int) < L.length := by omega
    rw [hm, List.drop_eq_nil_of_le (by omega)]
    repeat (first | (with_reducible (first | apply wA | apply wB | apply wC | apply wD | apply wE | apply wF | apply wG | apply wH | apply wI | apply wJ | apply wK | apply wL | apply wM | apply wN | apply wO | apply wP | apply wQ rfl | apply wR | apply wS | apply wT | apply wU)) | ((with_reducible (first | apply wV | apply wW | apply wX | (apply wY [] hTT cf0_ok noM_ok mixed; (focus kernel_rfl)))); (focus (simp only [Tryz.f148, hlt', List.length_map, go_sem]; with_reducible rfl))) | (with_reducible refine wZ hTT cf0_ok noM_ok ?_) | (with_reducible refine wa ?_; refine And.intro ?_ ?_; (focus kernel_rfl)))
    exact ⟨rfl, rfl, _, rfl, rfl⟩
theorem contains_112 {g : FuncId} {c : PV} (z : Z) (L : List Qi) (p : Qi → Bool) (he : Enters Tryz.prog g) (hc : c.closed = true) (hz : z = .n → L = []) (hl : L.length ≤ 100000) (h : ∀ q ∈ L, CallOk Tryz.prog g [encQ q, c] [] (.ret (.bool (p q))) []) :
    CallOk Tryz.prog 112 [.sl z (L.map encQ), .fn (.func g) [] [c]] [] (.ret (.bool (L.any p))) [] := by
  refine CallOk.of0 hTT Tryz.func112 rfl rfl ?_
  have h148 := index_148 z L p he hc hz hl h
  have hltb : ltBL 0 [PV.sl z (L.map encQ), .fn (.func g) [] [c]] = true := ltBL_of_closed 0 _ (by simp [closedL, PV.closed, closedL_Qs, hc])
  rw [← idxA_any p L 0]
  by_cases h0 : 0 ≤ idxA p L 0
  · rw [decide_eq_true h0]
    repeat (first | (with_reducible (first | apply wA | apply wB | apply wC | apply wD | apply wE | apply wF | apply wG | apply wH | apply wI | apply wJ | apply wK | apply wL | apply wM | apply wN | apply wO | apply wP | apply wQ rfl | apply wR | apply wS | apply wT | apply wU)) | ((with_reducible (first | apply wV | apply wW | apply wX | (apply wY [] hTT (cfAt_ok cf0_ok (ent Tryz.func148 rfl) h148 hltb) noM_ok mixed; (focus kernel_rfl)))); (focus (simp only [Tryz.f112, cfAt, h0, ge_iff_le, go_sem]; with_reducible rfl))) | (with_reducible refine wZ hTT (cfAt_ok cf0_ok (ent Tryz.func148 rfl) h148 hltb) noM_ok ?_) | (with_reducible refine wa ?_; refine And.intro ?_ ?_; (focus kernel_rfl)))
    exact ⟨rfl, rfl, _, rfl, rfl⟩
  · rw [decide_eq_false h0]
    repeat (first | (with_reducible (first | apply wA | apply wB | apply wC | apply wD | apply wE | apply wF | apply wG | apply wH | apply wI | apply wJ | apply wK | apply wL | apply wM | apply wN | apply wO | apply wP | apply wQ rfl | apply wR | apply wS | apply wT | apply wU)) | ((with_reducible (first | apply wV | apply wW | apply wX | (apply wY [] hTT (cfAt_ok cf0_ok (ent Tryz.func148 rfl) h148 hltb) noM_ok mixed; (focus kernel_rfl)))); (focus (simp only [Tryz.f112, cfAt, h0, ge_iff_le, go_sem]; with_reducible rfl))) | (with_reducible refine wZ hTT (cfAt_ok cf0_ok (ent Tryz.func148 rfl) h148 hltb) noM_ok ?_) | (with_reducible refine wa ?_; refine And.intro ?_ ?_; (focus kernel_rfl)))
    exact ⟨rfl, rfl, _, rfl, rfl⟩
end Go.Pv
namespace Go.Pv
open Go Go.RowKit Go.Proofs
set_option maxRecDepth 200000
set_option maxHeartbeats 8000000
theorem Clone_149 (z : Z) (ls : List Lb) (hz : z ≠ .n) (hl : ls ≠ []) (hs : ls.length ≤ 1000) : CallOk Tryz.prog 149 [.sl z (ls.map encLb)] [] (.ret (.ms 0 ls.length)) [.row false 44 5 (ls.map encLb) false] := by
  refine CallOk.ofS hTT Tryz.func149 rfl rfl ?_
  have he : (ls.map encLb).isEmpty = false := by cases ls with
    | nil => exact absurd rfl hl
    | cons a l => rfl
  have r1 : ls.length * 40 ≤ 140737488355328 := by omega
  have r2 : ls.length ≤ maxLen := by unfold maxLen; omega
  have ez : (z == Z.n) = false := by cases z <;> first | exact absurd rfl hz | rfl
  repeat (first | (with_reducible (first | apply wA | apply wB | apply wC | apply wD | apply wE | apply wF | apply wG | apply wH | apply wI | apply wJ | apply wK | apply wL | apply wM | apply wN | apply wO | apply wP | apply wQ rfl | apply wR | apply wS | apply wT | apply wU)) | ((with_reducible (first | apply wV | apply wW | apply wX | (apply wY [] hTT cf0_ok noM_ok mixed; (focus kernel_rfl)))); (focus (simp only [Tryz.f149, ez, hz, he, r1, r2, all_mLb, all_t, List.length_map, go_sem]; with_reducible rfl))) | (with_reducible refine wZ hTT cf0_ok noM_ok ?_) | (with_reducible refine wa ?_; refine And.intro ?_ ?_; (focus kernel_rfl)))
  refine ⟨rfl, rfl, _, rfl, ?_⟩
  exact leaveC_row rfl (closedL_lbs ls)
def c149 : List PV → List Box → Option (PRes × List Box)
  | [.sl z es], [] => match decL decLb es with
    | some ls => if z ≠ .n ∧ ls ≠ [] ∧ ls.length ≤ 1000 then some (.ret (.ms 0 ls.length), [.row false 44 5 (ls.map encLb) false]) else none
    | none => none
  | _, _ => none
theorem c149_ok : ConOk Tryz.prog 149 c149 := fun args sg r sg' h => by
  unfold c149 at h
  split at h <;> try (cases h; done)
  split at h <;> try (cases h; done)
  rename_i hl
  split at h <;> cases h
  rename_i hc
  obtain rfl := decL_inv decLb_inv hl
  exact ⟨ent Tryz.func149 rfl, Clone_149 _ _ hc.1 hc.2.1 hc.2.2, sameLoops_of _ _ rfl⟩
def cfMp : CallF := cfAdd cf0 149 (conRow c149)
theorem cfMp_ok : CallFOk Tryz.prog cfMp := cfAdd_ok cf0_ok c149_ok.row
theorem mended_115 (s : Int) (z zl : Z) (ls : List Lb) (js : List Int) (hzo : zOk z (ls.map encLb) = true) (hl : zl = .n → js = []) (hne : ls ≠ []) (hs : ls.length ≤ 1000) (hln : js.length ≤ 1000000) (hj : ∀ n ∈ js, limbG ls n = true) :
    CallOk Tryz.prog 115 [.agg [ii s, .sl z (ls.map encLb)], .sl zl (js.map ii)] [] (.ret (.agg [ii s, .sl .a ((menG ls js).map encLb)])) [] := by
  refine CallOk.ofF hTT Tryz.func115 rfl rfl ?_
  have hz : z ≠ .n := fun e => hne (zOk_map hzo e)
  have hdl := decLbs ls
  have lL : ∀ m (l : List Lb), ltBL m (l.map encLb) = true := fun m l => ltBL_of_closed m _ (closedL_lbs l)
  have hcl := closedL_lbs ls
  repeat (first | (with_reducible (first | apply wA | apply wB | apply wC | apply wD | apply wE | apply wF | apply wG | apply wH | apply wI | apply wJ | apply wK | apply wL | apply wM | apply wN | apply wO | apply wP | apply wQ rfl | apply wR | apply wS | apply wT | apply wU)) | ((with_reducible (first | apply wV | apply wW | apply wX | (apply wY [] hTT cfMp_ok noM_ok mixed; (focus kernel_rfl)))); (focus (simp only [Tryz.f115, cfMp, conRow, c149, hdl, hz, hne, hs, hcl, lL, ltB_lbs, ne_eq, not_false_eq_true, and_self, if_true, List.length_map, go_sem]; with_reducible rfl))) | (with_reducible refine wZ hTT cfMp_ok noM_ok ?_) | (with_reducible refine wa ?_; refine And.intro ?_ ?_; (focus kernel_rfl)))
  refine RunQ.keep [13, 12, 11, 4, 2] (by simp only [go_sem]; rfl) ?_
  refine RunQ.loop (fun i s' => s' = ⟨[(13, ii i), (12, ii js.length), (11, .sl zl (js.map ii)), (4, .bp 1 0), (2, .bp 0 0)], 24, [.var [ii s, .ms 2 ls.length] false, .var [ii 0, .sl .n []] false, .row false 44 5 ((menG ls (js.take i)).map encLb) false]⟩) js.length (by simp only [go_sem]; rfl) ?_
  rintro i _ hi rfl
  have hml := menG_len (js.take i) ls
  by_cases hlt : i < js.length
  · obtain ⟨n, hn⟩ : ∃ n, js[i]? = some n := ⟨_, List.getElem?_eq_getElem hlt⟩
    have hn' : (js.map ii)[i]? = some (ii n) := map_get hn
    have hlt' : (i : Int) < js.length := by omega
    have hzn : zl ≠ .n := fun e => by rw [hl e] at hlt; simp at hlt
    have e4 : IntKind.i64.wrap ((i : Int) + 1) = ((i + 1 : Nat) : Int) := wrap_id (by omega) (by omega)
    have hli := hj n (List.mem_of_getElem? hn)
    simp only [limbG, inB, decide_eq_true_eq, Bool.and_eq_true] at hli
    have h0 : 0 ≤ n := by omega
    have h1 : n < ls.length := by omega
    have htk : js.take (i + 1) = js.take i ++ [n] := by rw [List.take_add_one, hn]; rfl
    have hmt : menG ls (js.take (i + 1)) = menS (menG ls (js.take i)) n := by rw [htk, menG_snoc]
    generalize menG ls (js.take i) = M at hml hmt ⊢
    obtain ⟨x, hx⟩ : ∃ x, M[n.toNat]? = some x := ⟨_, List.getElem?_eq_getElem (by omega)⟩
    have hx' : (M.map encLb)[n.toNat]? = some (.agg [ii x.p, ii x.l, ii x.lo, ii x.hi, ii x.w]) := map_get hx
    have hms : menS M n = M.set n.toNat (mdL x) := by unfold menS; rw [hx]
    have hss : setElem (.agg [ii x.p, ii x.l, ii x.lo, ii x.hi, ii x.w]) 4 [PV.int .i64 0] = encLb (mdL x) := rfl
    have hst : (M.map encLb).set n.toNat (encLb (mdL x)) = (M.set n.toNat (mdL x)).map encLb := by rw [List.map_set]
    repeat (first | (with_reducible (first | apply wA | apply wB | apply wC | apply wD | apply wE | apply wF | apply wG | apply wH | apply wI | apply wJ | apply wK | apply wL | apply wM | apply wN | apply wO | apply wP | apply wQ rfl | apply wR | apply wS | apply wT | apply wU)) | ((with_reducible (first | apply wV | apply wW | apply wX | (apply wY [] hTT cfMp_ok noM_ok mixed; (focus kernel_rfl)))); (focus (simp only [Tryz.f115, hlt', hn', hzn, h0, h1, hx', hml, hss, hst, e4, List.length_map, go_sem]; with_reducible rfl))) | (with_reducible refine wZ hTT cfMp_ok noM_ok ?_) | (with_reducible refine wa ?_; refine And.intro ?_ ?_; (focus kernel_rfl)))
    refine roundQ.t 3 [13, 12, 11, 4, 2] hlt (by simp only [lL, ltB_lbs, ltB_is, ltB_isl, go_sem]) (by rw [hmt, hms]; simp only [go_sem])
  · have hlt' : ¬ (i : Int) < js.length := by omega
    obtain rfl : i = js.length := by omega
    rw [List.take_length] at hml ⊢
    repeat (first | (with_reducible (first | apply wA | apply wB | apply wC | apply wD | apply wE | apply wF | apply wG | apply wH | apply wI | apply wJ | apply wK | apply wL | apply wM | apply wN | apply wO | apply wP | apply wQ rfl | apply wR | apply wS | apply wT | apply wU)) | ((with_reducible (first | apply wV | apply wW | apply wX | (apply wY [] hTT cfMp_ok noM_ok mixed; (focus kernel_rfl)))); (focus (simp only [Tryz.f115, hlt', List.length_map, go_sem]; with_reducible rfl))) | (with_reducible refine wZ hTT cfMp_ok noM_ok ?_) | (with_reducible refine wa ?_; refine And.intro ?_ ?_; (focus kernel_rfl)))
    exact ⟨rfl, rfl, _, rfl, leave_aggrow (id := 2) (z := false) (frz := false) rfl (closedL_lbs _) (by rw [List.length_map, hml]) rfl⟩
def cfMp2 : CallF := cfAdd (cfAdd cf0 86 c86) 111 c111
theorem cfMp2_ok : CallFOk Tryz.prog cfMp2 := cfAdd_ok (cfAdd_ok cf0_ok c86_ok) c111_ok
theorem mends1_113 (s : Int) (z : Z) (ls : List Lb) (q : Qi) (hzo : zOk z (ls.map encLb) = true) (hq : zOk q.1 (q.2.map ii) = true) (hs : ls.length ≤ 1000) :
    CallOk Tryz.prog 113 [encQ q, .ip [ii s, .sl z (ls.map encLb)]] [] (.ret (.bool (!poseG ls q.2))) [] := by
  refine CallOk.of0 hTT Tryz.func113 rfl rfl ?_
  have hd := decFig_enc s z ls hzo
  have hd3 := decIs1_enc hq
  unfold encQ
  repeat (first | (with_reducible (first | apply wA | apply wB | apply wC | apply wD | apply wE | apply wF | apply wG | apply wH | apply wI | apply wJ | apply wK | apply wL | apply wM | apply wN | apply wO | apply wP | apply wQ rfl | apply wR | apply wS | apply wT | apply wU)) | ((with_reducible (first | apply wV | apply wW | apply wX | (apply wY [] hTT cfMp2_ok noM_ok mixed; (focus kernel_rfl)))); (focus (simp only [Tryz.f113, cfMp2, c86, hd, hd3, hs, go_sem]; with_reducible rfl))) | (with_reducible refine wZ hTT cfMp2_ok noM_ok ?_) | (with_reducible refine wa ?_; refine And.intro ?_ ?_; (focus kernel_rfl)))
  exact ⟨rfl, rfl, _, rfl, rfl⟩
/-- Whether there is a truth of a pose that is not fine. -/
def looseG (s : Int) (ls : List Lb) (g : Stg) (ps : List Int) : Bool := (proofO (truthsG ls ps) (finG s ls g)).isSome
theorem held1_150 (s : Int) (z zh zr : Z) (ls : List Lb) (g : Stg) (q : Qi) (hzo : zOk z (ls.map encLb) = true) (hh : zOk zh (g.hs.map encFld) = true) (hr : zOk zr (g.rs.map ii) = true) (hq : zOk q.1 (q.2.map ii) = true) (hf : figB s ls = true) (hg : stgG ls g = true) (hp : poseG ls q.2 = true) :
    CallOk Tryz.prog 150 [encQ q, .ip (stgC s z zh zr ls g)] [] (.ret (.bool (looseG s ls g q.2))) [] := by
  refine CallOk.of0 hTT Tryz.func150 rfl rfl ?_
  have hdk := decSt_enc s z zh zr ls g
  unfold stgC at hdk
  have hd3 := decIs1_enc hq
  unfold encQ looseG
  cases hx : proofO (truthsG ls q.2) (finG s ls g) with
  | none =>
    have hX : proofX s ls g q.2 = .tuple [.sl .n [], .bool false] := by unfold proofX; rw [hx]; rfl
    repeat (first | (with_reducible (first | apply wA | apply wB | apply wC | apply wD | apply wE | apply wF | apply wG | apply wH | apply wI | apply wJ | apply wK | apply wL | apply wM | apply wN | apply wO | apply wP | apply wQ rfl | apply wR | apply wS | apply wT | apply wU)) | ((with_reducible (first | apply wV | apply wW | apply wX | (apply wY [] hTT cfMp2_ok noM_ok mixed; (focus kernel_rfl)))); (focus (simp only [Tryz.f150, cfMp2, c111, hdk, hd3, hX, hzo, hh, hr, hf, hg, hp, and_self, if_true, go_sem]; with_reducible rfl))) | (with_reducible refine wZ hTT cfMp2_ok noM_ok ?_) | (with_reducible refine wa ?_; refine And.intro ?_ ?_; (focus kernel_rfl)))
    exact ⟨rfl, rfl, _, rfl, rfl⟩
  | some l =>
    have hX : proofX s ls g q.2 = .tuple [pvL l, .bool true] := by unfold proofX; rw [hx]; rfl
    obtain ⟨zl, hzl, _⟩ := pvL_z l
    rw [hzl] at hX
    repeat (first | (with_reducible (first | apply wA | apply wB | apply wC | apply wD | apply wE | apply wF | apply wG | apply wH | apply wI | apply wJ | apply wK | apply wL | apply wM | apply wN | apply wO | apply wP | apply wQ rfl | apply wR | apply wS | apply wT | apply wU)) | ((with_reducible (first | apply wV | apply wW | apply wX | (apply wY [] hTT cfMp2_ok noM_ok mixed; (focus kernel_rfl)))); (focus (simp only [Tryz.f150, cfMp2, c111, hdk, hd3, hX, hzo, hh, hr, hf, hg, hp, and_self, if_true, go_sem]; with_reducible rfl))) | (with_reducible refine wZ hTT cfMp2_ok noM_ok ?_) | (with_reducible refine wa ?_; refine And.intro ?_ ?_; (focus kernel_rfl)))
    exact ⟨rfl, rfl, _, rfl, rfl⟩
theorem held_116 (s : Int) (z zh zr zq : Z) (ls : List Lb) (g : Stg) (L : List Qi) (hzo : zOk z (ls.map encLb) = true) (hh : zOk zh (g.hs.map encFld) = true) (hr : zOk zr (g.rs.map ii) = true) (hzq : zq = .n → L = []) (hL : qsB L = true) (hl : L.length ≤ 100000) (hf : figB s ls = true) (hg : stgG ls g = true) (hp : ∀ q ∈ L, poseG ls q.2 = true) :
    CallOk Tryz.prog 116 [.agg (stgC s z zh zr ls g), .sl zq (L.map encQ)] [] (.ret (.bool (!(L.any fun q => looseG s ls g q.2)))) [] := by
  refine CallOk.of0 hTT Tryz.func116 rfl rfl ?_
  have hcK := closed_stgC s z zh zr ls g
  have h112 := contains_112 (g := 150) (c := .ip (stgC s z zh zr ls g)) zq L (fun q => looseG s ls g q.2) (ent Tryz.func150 rfl) hcK hzq hl (fun q hq => held1_150 s z zh zr ls g q hzo hh hr (List.all_eq_true.1 hL q hq) hf hg (hp q hq))
  have hltb : ltBL 0 [PV.sl zq (L.map encQ), .fn (.func 150) [] [.ip (stgC s z zh zr ls g)]] = true := ltBL_of_closed 0 _ (by simp only [closedL, PV.closed, closedL_Qs, closedL_lbs, closedL_flds, closedL_is, Bool.true_and, Bool.and_true])
  generalize (L.any fun q => looseG s ls g q.2) = b at h112 ⊢
  repeat (first | (with_reducible (first | apply wA | ((fail_if_success (refine RunQ.seq (x := .region 1 _ _) ?_)); (apply wB)) | apply wC | apply wD | apply wE | apply wF | apply wG | apply wH | apply wI | apply wJ | apply wK | apply wL | apply wM | apply wN | apply wO | apply wP | apply wQ rfl | apply wR | apply wS | apply wT | apply wU)) | ((with_reducible (first | apply wV | apply wW | apply wX | (apply wY [] hTT cf0_ok noM_ok mixed; (focus kernel_rfl)))); (focus (simp only [Tryz.f116, go_sem]; with_reducible rfl))) | ((fail_if_success (with_reducible show RunQ _ (.region 1 _ _) _ _)); (with_reducible refine wZ hTT cf0_ok noM_ok ?_)) | (with_reducible refine wa ?_; refine And.intro ?_ ?_; (focus kernel_rfl)))
  refine RunQ.fzVar 2 0 rfl rfl rfl rfl ?_
  repeat (first | (with_reducible (first | apply wA | apply wB | apply wC | apply wD | apply wE | apply wF | apply wG | apply wH | apply wI | apply wJ | apply wK | apply wL | apply wM | apply wN | apply wO | apply wP | apply wQ rfl | apply wR | apply wS | apply wT | apply wU)) | ((with_reducible (first | apply wV | apply wW | apply wX | (apply wY [] hTT (cfAt_ok cf0_ok (ent Tryz.func112 rfl) h112 hltb) noM_ok mixed; (focus kernel_rfl)))); (focus (simp only [Tryz.f116, cfAt, notYield, go_sem]; with_reducible rfl))) | (with_reducible refine wZ hTT (cfAt_ok cf0_ok (ent Tryz.func112 rfl) h112 hltb) noM_ok ?_) | (with_reducible refine wa ?_; refine And.intro ?_ ?_; (focus kernel_rfl)))
  exact ⟨rfl, rfl, _, rfl, rfl⟩
end Go.Pv
namespace Go.Pv
open Go Go.RowKit Go.Proofs
set_option maxRecDepth 200000
set_option maxHeartbeats 8000000
/-- All lists of so many joints from one on. -/
def combF (n : Nat) : Nat → Nat → List (List Int)
  | 0, _ => [[]]
  | m + 1, f => (List.range' f (n - f)).flatMap fun (i : Nat) => (combF n m (i + 1)).map fun c => (i : Int) :: c
def cmb (n : Nat) (now : List Int) (m f : Nat) : List (List Int) := (combF n m f).map fun c => now ++ c
theorem combF_step {n m f : Nat} (h : f < n) : combF n (m + 1) f = ((combF n m (f + 1)).map fun c => (f : Int) :: c) ++ combF n (m + 1) (f + 1) := by
  show (List.range' f (n - f)).flatMap _ = _ ++ (List.range' (f + 1) (n - (f + 1))).flatMap _
  rw [show n - f = (n - (f + 1)) + 1 by omega, List.range'_succ, List.flatMap_cons]
theorem combF_end {n m f : Nat} (h : n ≤ f) : combF n (m + 1) f = [] := by
  show (List.range' f (n - f)).flatMap _ = _
  rw [show n - f = 0 by omega]; rfl
theorem combF_nil {n : Nat} : ∀ (m f : Nat), n < f + m → f ≤ n → combF n m f = []
  | 0, f, h, h2 => by omega
  | m + 1, f, h, h2 => by
    by_cases hf : f < n
    · rw [combF_step hf, combF_nil m (f + 1) (by omega) (by omega)]
      have : ∀ k, f + k ≤ n → combF n (m + 1) (n - k) = [] → combF n (m + 1) (f + 1) = [] ∨ True := fun _ _ _ => .inr trivial
      clear this
      -- the rest, from behind
      have rest : ∀ k, ∀ f', n - f' = k → f ≤ f' → f' ≤ n → combF n (m + 1) f' = [] := by
        intro k
        induction k with
        | zero => intro f' e _ _; exact combF_end (by omega)
        | succ k ih =>
          intro f' e h3 h4
          rw [combF_step (by omega), combF_nil m (f' + 1) (by omega) (by omega), ih (f' + 1) (by omega) (by omega) (by omega)]
          rfl
      rw [rest (n - (f + 1)) (f + 1) rfl (by omega) (by omega)]
      rfl
    · exact combF_end (by omega)
theorem cmb_step {n m f : Nat} {now : List Int} (h : f < n) : cmb n now (m + 1) f = cmb n (now ++ [(f : Int)]) m (f + 1) ++ cmb n now (m + 1) (f + 1) := by
  unfold cmb
  rw [combF_step h, List.map_append, List.map_map]
  congr 1
  refine List.map_congr_left fun c _ => ?_
  simp
theorem cmb_nil {n m f : Nat} {now : List Int} (h : n < f + m) (h2 : f ≤ n) : cmb n now m f = [] := by
  unfold cmb
  rw [combF_nil m f h h2]; rfl
/-- What the search leaves: the first list that is enough, or the last one that was tried. -/
def resO (h : List Int → Bool) (v : PV) (L : List (List Int)) : PV := match L.find? h with
  | some l => pvL l
  | none => match L.getLast? with
    | some l => pvL l
    | none => v
theorem find_any {h : List Int → Bool} {L : List (List Int)} : L.any h = false ↔ L.find? h = none := by
  rw [List.any_eq_false, List.find?_eq_none]
theorem resO_no {h : List Int → Bool} {v : PV} {A B : List (List Int)} (ha : A.any h = false) : resO h v (A ++ B) = resO h (resO h v A) B := by
  have h1 := find_any.1 ha
  unfold resO
  rw [List.find?_append, h1, Option.none_or, List.getLast?_append]
  cases B.find? h with
  | some l => rfl
  | none =>
    cases B.getLast? with
    | some l => rfl
    | none => rfl
theorem resO_yes {h : List Int → Bool} {v : PV} {A B : List (List Int)} (ha : A.any h = true) : resO h v (A ++ B) = resO h v A := by
  unfold resO
  rw [List.find?_append]
  cases hf : A.find? h with
  | some l => rfl
  | none => rw [find_any.2 hf] at ha; cases ha
theorem resO_closed {h : List Int → Bool} {v : PV} {L : List (List Int)} (hv : v.closed = true) : (resO h v L).closed = true := by
  have hp : ∀ l : List Int, (pvL l).closed = true := fun l => closedL_is l
  unfold resO
  split
  · exact hp _
  · split
    · exact hp _
    · exact hv
theorem sameLoops_set {S : List Box} {o : Nat} {cs cs' : List PV} {b b' : Bool} (h : S[o]? = some (.var cs b)) : SameLoops S (S.set o (.var cs' b')) := by
  have hl := (List.getElem?_eq_some_iff.1 h).1
  refine ⟨fun id lr e => ?_, fun id lr e => ?_⟩
  · by_cases hi : o = id
    · subst hi; rw [h] at e; cases e
    · exact ⟨lr, by rw [List.getElem?_set_ne hi]; exact e⟩
  · by_cases hi : o = id
    · subst hi; rw [List.getElem?_set_self hl] at e; cases e
    · rw [List.getElem?_set_ne hi] at e; exact ⟨lr, e⟩
structure MdOk (s : Int) (z zh zr zq : Z) (ls : List Lb) (g : Stg) (L : List Qi) : Prop where
  z : zOk z (ls.map encLb) = true
  h : zOk zh (g.hs.map encFld) = true
  r : zOk zr (g.rs.map ii) = true
  f : figB s ls = true
  g : stgG ls g = true
  zq : zq = .n → L = []
  q : qsB L = true
  l : L.length ≤ 100000
  p : ∀ q ∈ L, poseG ls q.2 = true
/-- Whether all poses surely are held after some joints were mended. -/
def heldG (s : Int) (ls : List Lb) (g : Stg) (L : List Qi) (js : List Int) : Bool := !(L.any fun q => looseG s (menG ls js) g q.2)
def c115 : List PV → List Box → Option (PRes × List Box)
  | [v, p], sg => match decFig v, decIs1 p with
    | some (s, ls), some l => if ls ≠ [] ∧ ls.length ≤ 1000 ∧ l.length ≤ 1000000 ∧ (l.all fun n => limbG ls n) = true then some (.ret (.agg [ii s, .sl .a ((menG ls l).map encLb)]), sg) else none
    | _, _ => none
  | _, _ => none
theorem c115_ok : ConOk Tryz.prog 115 c115 := ConOk.of0 (ent Tryz.func115 rfl) fun args sg r sg' h => by
  unfold c115 at h
  split at h <;> try (cases h; done)
  split at h <;> try (cases h; done)
  rename_i h1 h2
  split at h <;> cases h
  rename_i hc
  obtain ⟨z, rfl, hz⟩ := decFig_inv h1
  obtain ⟨zp, rfl, hp⟩ := decIs1_inv h2
  exact ⟨_, rfl, rfl, by rw [ltBL_cons, ltB_fig, ltBL_cons, ltB_isl]; rfl, mended_115 _ _ _ _ _ (zOk_n' hz) hp hc.1 hc.2.1 hc.2.2.1 (fun n hn => List.all_eq_true.1 hc.2.2.2 n hn)⟩
abbrev figC (s : Int) (z : Z) (ls : List Lb) : List PV := [ii s, .sl z (ls.map encLb)]
abbrev stC (zh zr : Z) (g : Stg) : List PV := [ii g.e.a, ii g.e.b, ii g.e.c, ii g.e.d, .sl zh (g.hs.map encFld), .sl zr (g.rs.map ii)]
abbrev srC (s : Int) (z zh zr zq : Z) (ls : List Lb) (g : Stg) (L : List Qi) (o se : Nat) : List PV := [.bp o 0, .ip (figC s z ls), .ip (stC zh zr g), .ip [.sl zq (L.map encQ)], .bp se 0]
abbrev srF (s : Int) (z zh zr zq : Z) (ls : List Lb) (g : Stg) (L : List Qi) (o se : Nat) : PV := .fn (.func 114) [] (srC s z zh zr zq ls g L o se)
def cfMq : CallF := cfAdd (cfAdd cf0 115 c115) 117 c117
theorem cfMq_ok : CallFOk Tryz.prog cfMq := cfAdd_ok (cfAdd_ok cf0_ok c115_ok) c117_ok
theorem srch_base {s : Int} {z zh zr zq : Z} {ls : List Lb} {g : Stg} {L : List Qi} (H : MdOk s z zh zr zq ls g L) (now : List Int) (f : Int) (S : List Box) (o se : Nat) (v : PV) (hn : ∀ x ∈ now, limbG ls x = true) (hnl : now.length ≤ 1000)
    (ho : S[o]? = some (.var [v] false)) (hbx : ∀ b ∈ S, b.Lt S.length) :
    CallOk Tryz.prog 114 (pvL now :: ii f :: ii 0 :: srC s z zh zr zq ls g L o se) S (.ret (.bool (heldG s ls g L now))) (S.set o (.var [pvL now] false)) := by
  have hol := (List.getElem?_eq_some_iff.1 ho).1
  have hpc : (pvL now).closed = true := closedL_is now
  refine CallOk.ofB hTT Tryz.func114 rfl rfl ?_ (by simp) (fun b hb => ?_) .bool
  · have hd := decFig_enc s z ls H.z
    have hl := fig_len H.f
    have hs : ls.length ≤ 1000 := by omega
    have hne : ls ≠ [] := fun e => by rw [e] at hl; simp at hl
    obtain ⟨zn, hzn, hzk⟩ := pvL_z now
    have hdn := decIs1_enc hzk
    have hall : (now.all fun n => limbG ls n) = true := List.all_eq_true.2 hn
    have hM := mdd_menG now (mdd_refl ls)
    have h116 := held_116 s .a zh zr zq (menG ls now) g L (by cases menG ls now <;> rfl) H.h H.r H.zq H.q H.l (mdd_fig hM H.f) (by rw [mdd_stg hM]; exact H.g) (fun q hq => by rw [mdd_pose hM]; exact H.p q hq)
    have hb : (!(L.any fun q => looseG s (menG ls now) g q.2)) = heldG s ls g L now := rfl
    rw [hb] at h116
    have hltb : ltBL 0 [PV.agg (stgC s .a zh zr (menG ls now) g), .sl zq (L.map encQ)] = true := ltBL_of_closed 0 _ (by simp only [closedL, PV.closed, closedL_Qs, closedL_lbs, closedL_flds, closedL_is, Bool.true_and, Bool.and_true])
    generalize heldG s ls g L now = b at h116 ⊢
    have hls := sameLoops_set (cs' := [pvL now]) (b' := false) ho
    have hsl : (S.set o (.var [pvL now] false)).length = S.length := by simp
    rw [hzn] at hsl hls ⊢
    generalize hS1 : S.set o (.var [.sl zn (now.map ii)] false) = S1 at hsl hls
    unfold stgC at h116 hltb
    generalize hk0 : S.length = k0 at hsl hol
    have g0 : ∀ B : List Box, (S1 ++ B)[k0]? = B[0]? := fun B => by rw [← hsl]; exact app_get0 S1 B
    have g1 : ∀ (B : List Box) (n : Nat), (S1 ++ B)[k0 + n]? = B[n]? := fun B n => by rw [← hsl]; exact app_get S1 B n
    have s0 : ∀ (B : List Box) (x : Box), (S1 ++ B).set k0 x = S1 ++ B.set 0 x := fun B x => by rw [← hsl]; exact app_set0 S1 B x
    have s1 : ∀ (B : List Box) (n : Nat) (x : Box), (S1 ++ B).set (k0 + n) x = S1 ++ B.set n x := fun B n x => by rw [← hsl]; exact app_set S1 B n x
    have hnl2 : now.length ≤ 1000000 := by omega
    have hnd : [k0, k0 + 1].Nodup := by simp
    repeat (first | (with_reducible (first | apply wA | ((fail_if_success (refine RunQ.seq (x := .region 3 _ _) ?_)); (apply wB)) | apply wC | apply wD | apply wE | apply wF | apply wG | apply wH | apply wI | apply wJ | apply wK | apply wL | apply wM | apply wN | apply wO | apply wP | apply wQ rfl | apply wR | apply wS | apply wT | apply wU)) | ((with_reducible (first | apply wV | apply wW | apply wX | (apply wY [] hTT cfMq_ok noM_ok mixed; (focus kernel_rfl)))); (focus (simp only [Tryz.f114, ho, hS1, go_sem]; with_reducible rfl))) | ((fail_if_success (with_reducible show RunQ _ (.region 3 _ _) _ _)); (with_reducible refine wZ hTT cfMq_ok noM_ok ?_)) | (with_reducible refine wa ?_; refine And.intro ?_ ?_; (focus kernel_rfl)))
    refine RunQ.seq ?_
    refine RunQ.drawn [] hTT (cfAt_ok cfMq_ok (ent Tryz.func116 rfl) h116 hltb) noM_ok mixed (by kernel_rfl) (by simp only [hsl, go_sem]; rfl) ?_
    iterate 8 (apply DrawQ.step; (focus (simp only [Tryz.f114, cfAt, cfMq, c115, hd, hdn, hne, hs, hnl2, hall, closedL_lbs, closedL_is, closedL_flds, closedL_Qs, g0, g1, s0, s1, hsl, freeB, and_self, if_true, go_sem]; with_reducible rfl)))
    refine DrawQ.nil ⟨boxOk_ren [k0, k0 + 1] [(false, none, []), (false, none, []), (false, none, [0]), (false, none, []), (false, none, []), (false, none, []), (false, none, [1]), (false, none, [])] hnd (by kernel_rfl) rfl (by kernel_rfl), ?_⟩
    repeat (first | (with_reducible (first | apply wA | apply wB | apply wC | apply wD | apply wE | apply wF | apply wG | apply wH | apply wI | apply wJ | apply wK | apply wL | apply wM | apply wN | apply wO | apply wP | apply wQ rfl | apply wR | apply wS | apply wT | apply wU)) | ((with_reducible (first | apply wV | apply wW | apply wX | (apply wY [] hTT cfMq_ok noM_ok mixed; (focus kernel_rfl)))); (focus (simp only [Tryz.f114, go_sem]; with_reducible rfl))) | (with_reducible refine wZ hTT cfMq_ok noM_ok ?_) | (with_reducible refine wa ?_; refine And.intro ?_ ?_; (focus kernel_rfl)))
    refine ⟨rfl, ?_, rfl, [.dead, .dead], by simp⟩
    have := hls.app [.dead, .dead] rfl
    simpa using this
  · rcases List.mem_or_eq_of_mem_set hb with hb | rfl
    · exact hbx b hb
    · exact fun c hc => by
        simp only [List.mem_cons, List.not_mem_nil, or_false] at hc
        subst hc
        exact (lt_of_closed _ hpc).mono (Nat.zero_le _)
theorem cmb_zero (n : Nat) (now : List Int) (f : Nat) : cmb n now 0 f = [now] := by
  unfold cmb combF
  simp
theorem resO_one (h : List Int → Bool) (v : PV) (l : List Int) : resO h v [l] = pvL l := by
  unfold resO
  rw [List.find?_cons]
  cases h l <;> rfl
theorem srch_ok {s : Int} {z zh zr zq : Z} {ls : List Lb} {g : Stg} {L : List Qi} (H : MdOk s z zh zr zq ls g L) : ∀ (m : Nat) (now : List Int) (f : Nat) (S : List Box) (o se : Nat) (v : PV), (∀ x ∈ now, limbG ls x = true) → now.length + m ≤ 1000 → f ≤ ls.length →
    S[o]? = some (.var [v] false) → v.closed = true → S[se]? = some (.var [srF s z zh zr zq ls g L o se] false) → o ≠ se → (∀ b ∈ S, b.Lt S.length) →
    CallOk Tryz.prog 114 (pvL now :: ii (f : Nat) :: ii (m : Nat) :: srC s z zh zr zq ls g L o se) S (.ret (.bool ((cmb ls.length now m f).any (heldG s ls g L)))) (S.set o (.var [resO (heldG s ls g L) v (cmb ls.length now m f)] false))
  | 0, now, f, S, o, se, v, hn, hnl, hfn, ho, hv, hse, hne, hbx => by
    rw [cmb_zero, resO_one]
    have := srch_base H now f S o se v hn (by omega) ho hbx
    simpa using this
  | m + 1, now, f, S, o, se, v, hn, hnl, hfn, ho, hv, hse, hne, hbx => by
    have IH := srch_ok H m
    have hol := (List.getElem?_eq_some_iff.1 ho).1
    have hsel := (List.getElem?_eq_some_iff.1 hse).1
    have hl := fig_len H.f
    have hsetlt : ∀ (w : PV), w.closed = true → ∀ b ∈ S.set o (.var [w] false), b.Lt S.length := fun w hw b hb => by
      rcases List.mem_or_eq_of_mem_set hb with hb | rfl
      · exact hbx b hb
      · exact fun c hc => by
          simp only [List.mem_cons, List.not_mem_nil, or_false] at hc
          subst hc
          exact (lt_of_closed _ hw).mono (Nat.zero_le _)
    refine CallOk.ofB hTT Tryz.func114 rfl rfl ?_ (by simp) (hsetlt _ (resO_closed hv)) .bool
    generalize hh : heldG s ls g L = h at IH ⊢
    generalize hAny : (cmb ls.length now (m + 1) f).any h = bb
    generalize hRes : resO h v (cmb ls.length now (m + 1) f) = rr
    have hm0 : ((m + 1 : Nat) : Int) ≠ 0 := by omega
    have hm1 : (((m + 1 : Nat) : Int) == 0) = false := by simp; omega
    have hpc : (pvL now).closed = true := closedL_is now
    obtain ⟨zn, hzn, hzk⟩ := pvL_z now
    generalize hmi : ((m + 1 : Nat) : Int) = mi at hm0 hm1 ⊢
    generalize hk0 : S.length = k0 at *
    rw [hzn]
    repeat (first | (with_reducible (first | apply wA | ((fail_if_success (refine RunQ.seq (x := .region 4 _ _) ?_)); (apply wB)) | apply wC | apply wD | apply wE | apply wF | apply wG | apply wH | apply wI | apply wJ | apply wK | apply wL | apply wM | apply wN | apply wO | apply wP | apply wQ rfl | apply wR | apply wS | apply wT | apply wU)) | ((with_reducible (first | apply wV | apply wW | apply wX | (apply wY [] hTT cf0_ok noM_ok mixed; (focus kernel_rfl)))); (focus (simp only [Tryz.f114, hm1, go_sem]; with_reducible rfl))) | ((fail_if_success (with_reducible show RunQ _ (.region 4 _ _) _ _)); (with_reducible refine wZ hTT cf0_ok noM_ok ?_)) | (with_reducible refine wa ?_; refine And.intro ?_ ?_; (focus kernel_rfl)))
    repeat (first | (with_reducible (first | apply wA | apply wB | apply wC | apply wD | apply wE | apply wF | apply wG | apply wH | apply wI | apply wJ | apply wK | apply wL | apply wM | apply wN | apply wO | apply wP | apply wQ rfl | apply wR | apply wS | apply wT | apply wU)) | ((with_reducible (first | apply wV | apply wW | apply wX | (apply wY [] hTT cf0_ok noM_ok mixed; (focus kernel_rfl)))); (focus (simp only [Tryz.f114, go_sem]; with_reducible rfl))) | (with_reducible refine wZ hTT cf0_ok noM_ok ?_) | (with_reducible refine wa ?_; refine And.intro ?_ ?_; (focus kernel_rfl)))
    refine RunQ.keep [12, 11, 0, 2, 3, 4, 5, 6, 7] (by simp only [go_sem]; rfl) ?_
    refine RunQ.loop (fun k s' => ∃ w : PV, f + k ≤ ls.length ∧ w.closed = true ∧ bb = (cmb ls.length now (m + 1) (f + k)).any h ∧ rr = resO h w (cmb ls.length now (m + 1) (f + k)) ∧
      s' = ⟨[(12, ii ((f + k : Nat) : Int)), (11, .bool false), (0, .sl zn (now.map ii)), (2, ii mi), (3, .bp o 0), (4, .ip (figC s z ls)), (5, .ip (stC zh zr g)), (6, .ip [.sl zq (L.map encQ)]), (7, .bp se 0)], 44, S.set o (.var [w] false)⟩) (ls.length - f)
      ⟨v, by omega, hv, hAny.symm, hRes.symm, by rw [set_same ho]; rfl⟩ ?_
    rintro k _ hk ⟨w, hfk, hw, hany, hres, rfl⟩
    have hsi : (S.set o (.var [w] false)).length = k0 := by rw [List.length_set]; exact hk0
    have hsi' : ∀ x, (S.set o x).length = k0 := fun x => by rw [List.length_set]; exact hk0
    have hso : ∀ x, (S.set o x)[o]? = some x := fun x => List.getElem?_set_self (by rw [hk0]; exact hol)
    have hss : ∀ x, (S.set o x)[se]? = some (.var [srF s z zh zr zq ls g L o se] false) := fun x => by rw [List.getElem?_set_ne hne]; exact hse
    have hlS := sameLoops_set (cs' := [w]) (b' := false) ho
    have e5 : IntKind.i64.wrap (((f + k : Nat) : Int) + mi) = ((f + k : Nat) : Int) + mi := wrap_id (by omega) (by omega)
    by_cases hc : f + k + (m + 1) ≤ ls.length
    · have hlt : k < ls.length - f := by omega
      have hcI : ((f + k : Nat) : Int) + mi ≤ ls.length := by omega
      have hz' : z ≠ .n := fun e => by
        have := zOk_map H.z e
        rw [this] at hl
        simp at hl
      have hlim : limbG ls ((f + k : Nat) : Int) = true := by simp [limbG, inB]; omega
      have hn' : ∀ x ∈ now ++ [((f + k : Nat) : Int)], limbG ls x = true := fun x hx => by
        rcases List.mem_append.1 hx with hx | hx
        · exact hn x hx
        · simp at hx; subst hx; simpa using hlim
      have hpv : pvL (now ++ [((f + k : Nat) : Int)]) = .sl .a (now.map ii ++ [ii ((f + k : Nat) : Int)]) := by unfold pvL; cases now <;> simp
      have hcl : closedL (now.map ii ++ [ii ((f + k : Nat) : Int)]) = true := by rw [closedL_append, closedL_is]; rfl
      have hst := cmb_step (n := ls.length) (m := m) (f := f + k) (now := now) (by omega)
      generalize hb : (cmb ls.length (now ++ [((f + k : Nat) : Int)]) m (f + k + 1)).any h = b
      have hw' : (resO h w (cmb ls.length (now ++ [((f + k : Nat) : Int)]) m (f + k + 1))).closed = true := resO_closed hw
      generalize hwr : resO h w (cmb ls.length (now ++ [((f + k : Nat) : Int)]) m (f + k + 1)) = w' at hw'
      have key : ∀ (B B' : List Box) (p : Nat), B[p]? = some (.row false 3 1 (now.map ii ++ [ii ((f + k : Nat) : Int)]) false) → B.set p (.row false 3 1 (now.map ii ++ [ii ((f + k : Nat) : Int)]) true) = B' → SameLoops B B' → (∀ x ∈ B', x.ltB 0 = true) →
          CallOk Tryz.prog 114 (.ms (k0 + p) (now.length + 1) :: ii ((f + k + 1 : Nat) : Int) :: ii (m : Nat) :: srC s z zh zr zq ls g L o se) (S.set o (.var [w] false) ++ B) (.ret (.bool b)) (S.set o (.var [w'] false) ++ B') ∧ SameLoops (S.set o (.var [w] false) ++ B) (S.set o (.var [w'] false) ++ B') := by
        intro B B' p hp hB hSB hlt0
        have h1 := IH (now ++ [((f + k : Nat) : Int)]) (f + k + 1) (S.set o (.var [w] false) ++ B') o se w hn' (by simp; omega) (by omega) (app_low (hso _) B') hw (app_low (hss _) B') hne (fun x hx => by
          rw [List.length_append, hsi]
          rcases List.mem_append.1 hx with hx | hx
          · have := hsetlt w hw x hx
            rw [← hk0]
            exact this.mono (by omega)
          · exact (boxLt_of (hlt0 x hx)).mono (Nat.zero_le _))
        rw [hb, hwr, hpv] at h1
        have hset : (S.set o (.var [w] false) ++ B').set o (.var [w'] false) = S.set o (.var [w'] false) ++ B' := by
          rw [List.set_append_left _ _ (by rw [hsi]; exact hol), List.set_set]
        rw [hset] at h1
        refine ⟨call_frz (p := p) hsi hp hcl (by simp) (fun sg => rfl) (by rw [hB]; exact h1), ?_⟩
        have h2 := sameLoops_pre (S.set o (.var [w] false)) hSB
        have h3 : SameLoops (S.set o (.var [w] false) ++ B') (S.set o (.var [w'] false) ++ B') := by
          have := sameLoops_set (cs' := [w']) (b' := false) (app_low (hso (.var [w] false)) B')
          rw [hset] at this
          exact this
        exact h2.trans h3
      have e6 : IntKind.i64.wrap (((f + k : Nat) : Int) + 1) = ((f + k + 1 : Nat) : Int) := wrap_id (by omega) (by omega)
      have e7 : IntKind.i64.wrap (mi - 1) = (m : Int) := by
        rw [← hmi]
        exact (wrap_id (by omega) (by omega)).trans (by omega)
      have gF : ∀ B : List Box, (S.set o (.var [w] false) ++ B)[se]? = some (.var [srF s z zh zr zq ls g L o se] false) := app_low (hss _)
      have g0 : ∀ B : List Box, (S.set o (.var [w] false) ++ B)[k0]? = B[0]? := fun B => by rw [← hsi]; exact app_get0 _ B
      have g1 : ∀ (B : List Box) (n : Nat), (S.set o (.var [w] false) ++ B)[k0 + n]? = B[n]? := fun B n => by rw [← hsi]; exact app_get _ B n
      have s0 : ∀ (B : List Box) (x : Box), (S.set o (.var [w] false) ++ B).set k0 x = S.set o (.var [w] false) ++ B.set 0 x := fun B x => by rw [← hsi]; exact app_set0 _ B x
      have s1 : ∀ (B : List Box) (n : Nat) (x : Box), (S.set o (.var [w] false) ++ B).set (k0 + n) x = S.set o (.var [w] false) ++ B.set n x := fun B n x => by rw [← hsi]; exact app_set _ B n x
      have hadd : ∀ n m : Nat, k0 + n + m = k0 + (n + m) := fun n m => Nat.add_assoc _ _ _
      have hnd : [se, k0, k0 + 1, k0 + 2, o].Nodup := by simp; omega
      have hznc : (PV.sl zn (now.map ii)).closed = true := closedL_is now
      by_cases hnow : now = []
      · subst hnow
        have hzn' : zn = .n := by
          have : pvL [] = .sl .n [] := rfl
          rw [this] at hzn
          cases hzn; rfl
        subst hzn'
        have r1 : (1 : Nat) * 8 ≤ 140737488355328 := by omega
        have r2 : 1 ≤ maxLen := by unfold maxLen; omega
        have hr0 : (0 : Nat) = 0 := rfl
        obtain ⟨hc1, hc2⟩ := key [.dead, .row false 3 1 [ii ((f + k : Nat) : Int)] false, .dead] [.dead, .row false 3 1 [ii ((f + k : Nat) : Int)] true, .dead] 1 rfl rfl (sameLoops_of _ _ rfl) (by
          intro x hx
          simp only [List.mem_cons, List.not_mem_nil, or_false] at hx
          rcases hx with rfl | rfl | rfl <;> first | rfl | exact ltBL_of_closed 0 _ hcl)
        try rw [Nat.zero_add] at hc1
        repeat (first | (with_reducible (first | apply wA | ((fail_if_success (refine RunQ.seq (x := .region 7 _ _) ?_)); (apply wB)) | apply wC | apply wD | apply wE | apply wF | apply wG | apply wH | apply wI | apply wJ | apply wK | apply wL | apply wM | apply wN | apply wO | apply wP | apply wQ rfl | apply wR | apply wS | apply wT | apply wU)) | ((with_reducible (first | apply wV | apply wW | apply wX | (apply wY [] hTT cf0_ok noM_ok mixed; (focus kernel_rfl)))); (focus (simp only [Tryz.f114, e5, hcI, hz', List.length_map, go_sem]; with_reducible rfl))) | ((fail_if_success (with_reducible show RunQ _ (.region 7 _ _) _ _)); (with_reducible refine wZ hTT cf0_ok noM_ok ?_)) | (with_reducible refine wa ?_; refine And.intro ?_ ?_; (focus kernel_rfl)))
        refine RunQ.seq ?_
        refine RunQ.drawn [] hTT (cfOne_ok cfMq_ok (ent Tryz.func114 rfl) hc1 hc2) noM_ok mixed (by kernel_rfl) (by simp only [hsi, hadd, go_sem]; rfl) ?_
        iterate 10 (apply DrawQ.step; (focus (simp only [Tryz.f114, gF, g0, g1, s0, s1, hsi, hadd, e6, e7, cfMq, c117, hr0, r1, r2, closedL_is, cfOne, Nat.add_zero, go_sem]; with_reducible rfl)))
        refine DrawQ.full rfl (by simp only [go_sem]) (by simp only [go_sem]) (by simp only [g0, g1, go_sem]) (by simp only [cfOne, Nat.zero_add, Nat.add_zero, go_sem]; rfl) ?_
        refine DrawQ.nil ⟨boxOk_ren [se, k0, k0 + 1, k0 + 2, o] [(false, none, [0]), (false, none, []), (false, none, [1]), (false, none, []), (false, none, []), (false, some 2, [2]), (false, none, []), (false, none, []), (false, none, []), (false, none, []), (true, none, [3, 4, 0, 2])] hnd (by kernel_rfl) rfl (by kernel_rfl), ?_⟩
        cases b
        · have hst2 := hb
          repeat (first | (with_reducible (first | apply wA | apply wB | apply wC | apply wD | apply wE | apply wF | apply wG | apply wH | apply wI | apply wJ | apply wK | apply wL | apply wM | apply wN | apply wO | apply wP | apply wQ rfl | apply wR | apply wS | apply wT | apply wU)) | ((with_reducible (first | apply wV | apply wW | apply wX | (apply wY [] hTT cf0_ok noM_ok mixed; (focus kernel_rfl)))); (focus (simp only [Tryz.f114, e6, go_sem]; with_reducible rfl))) | (with_reducible refine wZ hTT cf0_ok noM_ok ?_) | (with_reducible refine wa ?_; refine And.intro ?_ ?_; (focus kernel_rfl)))
          refine roundQ.b hlt (Back.cutP [12, 11, 0, 2, 3, 4, 5, 6, 7] (S.set o (.var [w'] false)) [.dead, .row false 3 1 [ii ((f + k : Nat) : Int)] true, .dead] (by simp) (Nat.le_of_eq ((hsi' _).trans (hsi' _).symm)) (by simp only [go_sem]; rfl) (fun p hp => ?_) (fun x hx => ?_) rfl) ⟨w', by omega, hw', ?_, ?_, rfl⟩
          · rw [hsi']
            simp only [List.mem_cons, List.not_mem_nil, or_false] at hp
            rcases hp with rfl | rfl | rfl | rfl | rfl | rfl | rfl | rfl | rfl
            · exact .int
            · exact .bool
            · exact (lt_of_closed _ hznc).mono (Nat.zero_le _)
            · exact .int
            · exact .bp (by omega)
            · exact (lt_of_closed (.ip _) (show closedL (figC s z ls) = true from by simp [closedL, PV.closed, closedL_lbs])).mono (Nat.zero_le _)
            · exact (lt_of_closed (.ip _) (show closedL (stC zh zr g) = true from by simp [closedL, PV.closed, closedL_flds, closedL_is])).mono (Nat.zero_le _)
            · exact (lt_of_closed (.ip _) (show closedL [PV.sl zq (L.map encQ)] = true from by simp [closedL, PV.closed, closedL_Qs])).mono (Nat.zero_le _)
            · exact .bp (by omega)
          · rw [hsi']
            exact hsetlt w' hw' x hx
          · rw [hany, hst, List.any_append, hst2, Bool.false_or]; rfl
          · rw [hres, hst, resO_no hst2, hwr]; rfl
        · have hst2 := hb
          have hb1 : bb = true := by rw [hany, hst, List.any_append, hst2]; rfl
          have hr1 : rr = w' := by rw [hres, hst, resO_yes hst2, hwr]
          subst hb1
          subst hr1
          repeat (first | (with_reducible (first | apply wA | apply wB | apply wC | apply wD | apply wE | apply wF | apply wG | apply wH | apply wI | apply wJ | apply wK | apply wL | apply wM | apply wN | apply wO | apply wP | apply wQ rfl | apply wR | apply wS | apply wT | apply wU)) | ((with_reducible (first | apply wV | apply wW | apply wX | (apply wY [] hTT cf0_ok noM_ok mixed; (focus kernel_rfl)))); (focus (simp only [Tryz.f114, go_sem]; with_reducible rfl))) | (with_reducible refine wZ hTT cf0_ok noM_ok ?_) | (with_reducible refine wa ?_; refine And.intro ?_ ?_; (focus kernel_rfl)))
          refine ⟨rfl, ?_, rfl, [.dead, .row false 3 1 [ii ((f + k : Nat) : Int)] true, .dead], by simp⟩
          exact (sameLoops_set (cs' := [rr]) (b' := false) ho).app [.dead, .row false 3 1 [ii ((f + k : Nat) : Int)] true, .dead] rfl
      · have hzn' : zn = .a := by
          have : pvL now = .sl .a (now.map ii) := by unfold pvL; cases now with
            | nil => exact absurd rfl hnow
            | cons x l => rfl
          rw [this] at hzn
          cases hzn; rfl
        subst hzn'
        have hdec : decL decI (now.map ii) = some now := decIs now
        have hn1 : now.length ≤ 1000 := by omega
        have r1 : (now.length + 1) * 8 ≤ 140737488355328 := by omega
        have r2 : now.length + 1 ≤ maxLen := by unfold maxLen; omega
        obtain ⟨hc1, hc2⟩ := key [.row false 3 1 (now.map ii ++ [ii ((f + k : Nat) : Int)]) false, .dead, .dead] [.row false 3 1 (now.map ii ++ [ii ((f + k : Nat) : Int)]) true, .dead, .dead] 0 rfl rfl (sameLoops_of _ _ rfl) (by
          intro x hx
          simp only [List.mem_cons, List.not_mem_nil, or_false] at hx
          rcases hx with rfl | rfl | rfl <;> first | rfl | exact ltBL_of_closed 0 _ hcl)
        repeat (first | (with_reducible (first | apply wA | ((fail_if_success (refine RunQ.seq (x := .region 7 _ _) ?_)); (apply wB)) | apply wC | apply wD | apply wE | apply wF | apply wG | apply wH | apply wI | apply wJ | apply wK | apply wL | apply wM | apply wN | apply wO | apply wP | apply wQ rfl | apply wR | apply wS | apply wT | apply wU)) | ((with_reducible (first | apply wV | apply wW | apply wX | (apply wY [] hTT cf0_ok noM_ok mixed; (focus kernel_rfl)))); (focus (simp only [Tryz.f114, e5, hcI, hz', List.length_map, go_sem]; with_reducible rfl))) | ((fail_if_success (with_reducible show RunQ _ (.region 7 _ _) _ _)); (with_reducible refine wZ hTT cf0_ok noM_ok ?_)) | (with_reducible refine wa ?_; refine And.intro ?_ ?_; (focus kernel_rfl)))
        refine RunQ.seq ?_
        refine RunQ.drawn [] hTT (cfOne_ok cfMq_ok (ent Tryz.func114 rfl) hc1 hc2) noM_ok mixed (by kernel_rfl) (by simp only [hsi, hadd, go_sem]; rfl) ?_
        iterate 10 (apply DrawQ.step; (focus (simp only [Tryz.f114, gF, g0, g1, s0, s1, hsi, hadd, e6, e7, cfMq, c117, hdec, hnow, hn1, r1, r2, closedL_is, cfOne, Nat.add_zero, go_sem]; with_reducible rfl)))
        refine DrawQ.full rfl (by simp only [go_sem]) (by simp only [go_sem]) (by simp only [g0, g1, go_sem]) (by simp only [cfOne, Nat.zero_add, Nat.add_zero, go_sem]; rfl) ?_
        refine DrawQ.nil ⟨boxOk_ren [se, k0, k0 + 1, k0 + 2, o] [(false, none, [0]), (false, none, []), (false, some 1, [1]), (false, none, []), (false, none, []), (false, some 1, [2, 1]), (false, none, []), (false, none, []), (false, none, []), (false, none, []), (true, none, [3, 4, 0, 1])] hnd (by kernel_rfl) rfl (by kernel_rfl), ?_⟩
        cases b
        · have hst2 := hb
          repeat (first | (with_reducible (first | apply wA | apply wB | apply wC | apply wD | apply wE | apply wF | apply wG | apply wH | apply wI | apply wJ | apply wK | apply wL | apply wM | apply wN | apply wO | apply wP | apply wQ rfl | apply wR | apply wS | apply wT | apply wU)) | ((with_reducible (first | apply wV | apply wW | apply wX | (apply wY [] hTT cf0_ok noM_ok mixed; (focus kernel_rfl)))); (focus (simp only [Tryz.f114, e6, go_sem]; with_reducible rfl))) | (with_reducible refine wZ hTT cf0_ok noM_ok ?_) | (with_reducible refine wa ?_; refine And.intro ?_ ?_; (focus kernel_rfl)))
          refine roundQ.b hlt (Back.cutP [12, 11, 0, 2, 3, 4, 5, 6, 7] (S.set o (.var [w'] false)) [.row false 3 1 (now.map ii ++ [ii ((f + k : Nat) : Int)]) true, .dead, .dead] (by simp) (Nat.le_of_eq ((hsi' _).trans (hsi' _).symm)) (by simp only [go_sem]; rfl) (fun p hp => ?_) (fun x hx => ?_) rfl) ⟨w', by omega, hw', ?_, ?_, rfl⟩
          · rw [hsi']
            simp only [List.mem_cons, List.not_mem_nil, or_false] at hp
            rcases hp with rfl | rfl | rfl | rfl | rfl | rfl | rfl | rfl | rfl
            · exact .int
            · exact .bool
            · exact (lt_of_closed _ hznc).mono (Nat.zero_le _)
            · exact .int
            · exact .bp (by omega)
            · exact (lt_of_closed (.ip _) (show closedL (figC s z ls) = true from by simp [closedL, PV.closed, closedL_lbs])).mono (Nat.zero_le _)
            · exact (lt_of_closed (.ip _) (show closedL (stC zh zr g) = true from by simp [closedL, PV.closed, closedL_flds, closedL_is])).mono (Nat.zero_le _)
            · exact (lt_of_closed (.ip _) (show closedL [PV.sl zq (L.map encQ)] = true from by simp [closedL, PV.closed, closedL_Qs])).mono (Nat.zero_le _)
            · exact .bp (by omega)
          · rw [hsi']
            exact hsetlt w' hw' x hx
          · rw [hany, hst, List.any_append, hst2, Bool.false_or]; rfl
          · rw [hres, hst, resO_no hst2, hwr]; rfl
        · have hst2 := hb
          have hb1 : bb = true := by rw [hany, hst, List.any_append, hst2]; rfl
          have hr1 : rr = w' := by rw [hres, hst, resO_yes hst2, hwr]
          subst hb1
          subst hr1
          repeat (first | (with_reducible (first | apply wA | apply wB | apply wC | apply wD | apply wE | apply wF | apply wG | apply wH | apply wI | apply wJ | apply wK | apply wL | apply wM | apply wN | apply wO | apply wP | apply wQ rfl | apply wR | apply wS | apply wT | apply wU)) | ((with_reducible (first | apply wV | apply wW | apply wX | (apply wY [] hTT cf0_ok noM_ok mixed; (focus kernel_rfl)))); (focus (simp only [Tryz.f114, go_sem]; with_reducible rfl))) | (with_reducible refine wZ hTT cf0_ok noM_ok ?_) | (with_reducible refine wa ?_; refine And.intro ?_ ?_; (focus kernel_rfl)))
          refine ⟨rfl, ?_, rfl, [.row false 3 1 (now.map ii ++ [ii ((f + k : Nat) : Int)]) true, .dead, .dead], by simp⟩
          exact (sameLoops_set (cs' := [rr]) (b' := false) ho).app [.row false 3 1 (now.map ii ++ [ii ((f + k : Nat) : Int)]) true, .dead, .dead] rfl
    · have hcI : ¬ ((f + k : Nat) : Int) + mi ≤ ls.length := by omega
      have hz' : z ≠ .n := fun e => by
        have := zOk_map H.z e
        rw [this] at hl
        simp at hl
      rw [cmb_nil (by omega) (by omega)] at hany hres
      have hb0 : bb = false := hany
      have hr0 : rr = w := hres
      subst hb0
      subst hr0
      repeat (first | (with_reducible (first | apply wA | apply wB | apply wC | apply wD | apply wE | apply wF | apply wG | apply wH | apply wI | apply wJ | apply wK | apply wL | apply wM | apply wN | apply wO | apply wP | apply wQ rfl | apply wR | apply wS | apply wT | apply wU)) | ((with_reducible (first | apply wV | apply wW | apply wX | (apply wY [] hTT cf0_ok noM_ok mixed; (focus kernel_rfl)))); (focus (simp only [Tryz.f114, e5, hcI, hz', List.length_map, go_sem]; with_reducible rfl))) | (with_reducible refine wZ hTT cf0_ok noM_ok ?_) | (with_reducible refine wa ?_; refine And.intro ?_ ?_; (focus kernel_rfl)))
      exact ⟨rfl, hlS, rfl, [], by simp⟩
end Go.Pv
