/- Contracts: a figure's text, the reference's. -/
import Derived.Test.YtmnocohggpmjcaaGreatDoorQnaNum
import Derived.Test.YtmnocohggpmjcaaGreatDoorQyKey
import Derived.Test.YtmnocohggpmjcaaGreatDoorQjKnown
set_option linter.all false
namespace Go.Pv
open Go Go.RowKit Go.Proofs
set_option maxRecDepth 200000
set_option maxHeartbeats 8000000
def limbNs (x : Lb) : List Int := [x.p, x.l, x.lo, x.hi, x.w]
def figW : List UInt8 := [102, 105, 103, 117, 114, 101]
def limbW : List UInt8 := [108, 105, 109, 98]
def rowsF (s : Int) (ls : List Lb) : List (List UInt8) := rowF figW [s] :: ls.map fun x => rowF limbW (limbNs x)
def textF (s : Int) (ls : List Lb) : List UInt8 := sealF (rowsF s ls)
/-- The numbers of a figure are not too long. -/
def smallN (n : Int) : Bool := decide (n.natAbs < 1000000)
def smallF (s : Int) (ls : List Lb) : Bool := smallN s && ls.all fun x => (limbNs x).all smallN
def cfNb : CallF := cfAdd (cfAdd cf0 124 c124) 125 c125
theorem cfNb_ok : CallFOk Tryz.prog cfNb := cfAdd_ok (cfAdd_ok cf0_ok c124_ok) c125_ok
theorem RPrint_77 (s : Int) (z : Z) (ls : List Lb) (hzo : zOk z (ls.map encLb) = true) (hl : ls.length ≤ 900) (hs : smallF s ls = true) : CallOk Tryz.prog 77 [.agg [ii s, .sl z (ls.map encLb)]] [] (.ret (.str (textF s ls))) [] := by
  refine CallOk.of0 hTT Tryz.func77 rfl rfl ?_
  unfold smallF at hs
  rw [Bool.and_eq_true, List.all_eq_true] at hs
  have hsn : s.natAbs < 1000000 := by simpa [smallN] using hs.1
  have hd1 : decIs1 (.sl .f [ii s]) = some [s] := rfl
  have lk1 : (rowF [102, 105, 103, 117, 114, 101] [s]).length ≤ 14 := row_len [s] (fun n hn => by rw [List.mem_singleton.1 hn]; exact hsn) _
  have lk2 : ∀ x ∈ ls, ∀ n ∈ limbNs x, n.natAbs < 1000000 := fun x hx n hn => by
    have := List.all_eq_true.1 (hs.2 x hx) n hn
    simpa [smallN] using this
  have lk3 : ∀ x ∈ ls, (rowF [108, 105, 109, 98] (limbNs x)).length ≤ 44 := fun x hx => row_len (limbNs x) (lk2 x hx) _
  repeat (first | (with_reducible (first | apply wA | apply wB | apply wC | apply wD | apply wE | apply wF | apply wG | apply wH | apply wI | apply wJ | apply wK | apply wL | apply wM | apply wN | apply wO | apply wP | apply wQ rfl | apply wR | apply wS | apply wT | apply wU)) | ((with_reducible (first | apply wV | apply wW | apply wX | (apply wY [] hTT cfNb_ok noM_ok mixed; (focus kernel_rfl)))); (focus (simp only [Tryz.f77, cfNb, c124, hd1, hsn, go_sem]; with_reducible rfl))) | (with_reducible refine wZ hTT cfNb_ok noM_ok ?_) | (with_reducible refine wa ?_; refine And.intro ?_ ?_; (focus kernel_rfl)))
  refine RunQ.keep [4, 3, 2, 1] (by simp only [go_sem]; rfl) ?_
  have hz1 : ∀ i, i < ls.length → z ≠ .n := fun i hlt e => by have := zOk_map hzo e; rw [this] at hlt; simp at hlt
  refine RunQ.loop (fun i s' => (i = 0 ∧ s' = ⟨[(4, ii 0), (3, .sl .f [.str (rowF [102, 105, 103, 117, 114, 101] [s])]), (2, .str []), (1, .bp 0 0)], 40, [.var [ii s, .sl z (ls.map encLb)] false]⟩) ∨
    (0 < i ∧ ∃ x : Lb, s' = ⟨[(4, ii i), (3, .ms 2 (i + 1)), (2, .str []), (1, .bp 0 0)], 40, [.var [ii s, .sl z (ls.map encLb)] false, .var [ii x.p, ii x.l, ii x.lo, ii x.hi, ii x.w] false, .row false 9 1 (((rowsF s ls).take (i + 1)).map PV.str) false]⟩)) ls.length (.inl ⟨rfl, rfl⟩) ?_
  rintro i s' hi hI
  by_cases hlt : i < ls.length
  · obtain ⟨x, hx⟩ : ∃ x, ls[i]? = some x := ⟨_, List.getElem?_eq_getElem hlt⟩
    have hx' : (ls.map encLb)[i]? = some (.agg [ii x.p, ii x.l, ii x.lo, ii x.hi, ii x.w]) := map_get hx
    have hlt' : (i : Int) < ls.length := by omega
    have hz' := hz1 i hlt
    have e4 : IntKind.i64.wrap ((i : Int) + 1) = ((i + 1 : Nat) : Int) := wrap_id (by omega) (by omega)
    have hd5 : decIs1 (.sl .f [ii x.p, ii x.l, ii x.lo, ii x.hi, ii x.w]) = some [x.p, x.l, x.lo, x.hi, x.w] := rfl
    have hm := List.mem_of_getElem? hx
    have u := lk2 x hm
    have u1 := u x.p (by simp [limbNs])
    have u2 := u x.l (by simp [limbNs])
    have u3 := u x.lo (by simp [limbNs])
    have u4 := u x.hi (by simp [limbNs])
    have u5 := u x.w (by simp [limbNs])
    have hst : (rowsF s ls).take (i + 1 + 1) = (rowsF s ls).take (i + 1) ++ [rowF [108, 105, 109, 98] [x.p, x.l, x.lo, x.hi, x.w]] := by
      unfold rowsF
      rw [List.take_succ_cons, List.take_succ_cons, List.take_add_one, List.getElem?_map, hx]
      rfl
    rcases hI with ⟨rfl, rfl⟩ | ⟨h0, y, rfl⟩
    · have ht1 : (rowsF s ls).take (0 + 1) = [rowF [102, 105, 103, 117, 114, 101] [s]] := by unfold rowsF; rw [List.take_succ_cons, List.take_zero]; rfl
      rw [ht1] at hst
      generalize hRx : rowF [108, 105, 109, 98] [x.p, x.l, x.lo, x.hi, x.w] = rx at hst
      generalize rowF [102, 105, 103, 117, 114, 101] [s] = fx at hst
      have ez : ((0 : Nat) : Int) = 0 := rfl
      have e1 : IntKind.i64.wrap 1 = 1 := rfl
      rw [ez] at hlt'
      repeat (first | (with_reducible (first | apply wA | apply wB | apply wC | apply wD | apply wE | apply wF | apply wG | apply wH | apply wI | apply wJ | apply wK | apply wL | apply wM | apply wN | apply wO | apply wP | apply wQ rfl | apply wR | apply wS | apply wT | apply wU)) | ((with_reducible (first | apply wV | apply wW | apply wX | (apply wY [] hTT cfNb_ok noM_ok mixed; (focus kernel_rfl)))); (focus (simp only [Tryz.f77, cfNb, c124, hx', hlt', hz', e1, hd5, u1, u2, u3, u4, u5, hRx, List.length_map, List.map_append, go_sem]; with_reducible rfl))) | (with_reducible refine wZ hTT cfNb_ok noM_ok ?_) | (with_reducible refine wa ?_; refine And.intro ?_ ?_; (focus kernel_rfl)))
      refine roundQ.t 3 [4, 3, 2, 1] hlt ?_ ?_
      · simp only [ltB_lbs, go_sem]
      · refine Or.inr ⟨Nat.succ_pos _, x, ?_⟩
        rw [hst]
        simp only [go_sem]
    · have hrl : ((rowsF s ls).take (i + 1)).length = i + 1 := by
        rw [List.length_take]
        unfold rowsF
        rw [List.length_cons, List.length_map]; omega
      have l1 : i + 1 + 1 ≤ maxLen := by unfold maxLen; omega
      have l2 : (i + 1 + 1) * 16 ≤ 140737488355328 := by omega
      generalize hRx : rowF [108, 105, 109, 98] [x.p, x.l, x.lo, x.hi, x.w] = rx at hst
      have hall : ∀ (B : List (List UInt8)), (B.map PV.str).all (fun y => y.cells.length == 1) = true := fun B => by rw [List.all_map]; exact List.all_eq_true.2 fun _ _ => rfl
      generalize hA : (rowsF s ls).take (i + 1) = A at hst hrl
      repeat (first | (with_reducible (first | apply wA | apply wB | apply wC | apply wD | apply wE | apply wF | apply wG | apply wH | apply wI | apply wJ | apply wK | apply wL | apply wM | apply wN | apply wO | apply wP | apply wQ rfl | apply wR | apply wS | apply wT | apply wU)) | ((with_reducible (first | apply wV | apply wW | apply wX | (apply wY [] hTT cfNb_ok noM_ok mixed; (focus kernel_rfl)))); (focus (simp only [Tryz.f77, cfNb, c124, hx', hlt', hz', e4, hd5, u1, u2, u3, u4, u5, hrl, hRx, l1, l2, List.length_map, go_sem]; with_reducible rfl))) | (with_reducible refine wZ hTT cfNb_ok noM_ok ?_) | (with_reducible refine wa ?_; refine And.intro ?_ ?_; (focus kernel_rfl)))
      refine roundQ.t 3 [4, 3, 2, 1] hlt (by simp only [ltB_lbs, ltB_strs, ltBL_append, go_sem]) (Or.inr ⟨Nat.succ_pos _, y, by rw [hst]; simp only [List.map_append, go_sem]⟩)
  · have hlt' : ¬ (i : Int) < ls.length := by omega
    have hRl : (rowsF s ls).length = ls.length + 1 := by unfold rowsF; rw [List.length_cons, List.length_map]
    have hRall : ((rowsF s ls).all fun r => decide (r.length ≤ 1000)) = true := List.all_eq_true.2 fun r hr => by
      unfold rowsF at hr
      rcases List.mem_cons.1 hr with rfl | hr
      · exact decide_eq_true (Nat.le_trans lk1 (by decide))
      · obtain ⟨x, hx, rfl⟩ := List.mem_map.1 hr
        exact decide_eq_true (Nat.le_trans (lk3 x hx) (by decide))
    have hRn : (rowsF s ls).length ≤ 1000 := by omega
    have hdR := decSs_map (rowsF s ls)
    unfold textF
    rcases hI with ⟨rfl, rfl⟩ | ⟨h0, y, rfl⟩
    · have hR1 : rowsF s ls = [rowF [102, 105, 103, 117, 114, 101] [s]] := by
        have hl0 : ls = [] := List.length_eq_zero_iff.1 (by omega)
        unfold rowsF; rw [hl0]; rfl
      rw [hR1] at hdR hRall hRn ⊢
      have ez : ((0 : Nat) : Int) = 0 := rfl
      rw [ez] at hlt'
      generalize rowF [102, 105, 103, 117, 114, 101] [s] = fx at hdR hRall hRn ⊢
      have hdR : decL decS [.str fx] = some [fx] := hdR
      have hRall : ([fx].all fun r => decide (r.length ≤ 1000)) = true := hRall
      have hfl : fx.length ≤ 1000 := by simpa using hRall
      repeat (first | (with_reducible (first | apply wA | apply wB | apply wC | apply wD | apply wE | apply wF | apply wG | apply wH | apply wI | apply wJ | apply wK | apply wL | apply wM | apply wN | apply wO | apply wP | apply wQ rfl | apply wR | apply wS | apply wT | apply wU)) | ((with_reducible (first | apply wV | apply wW | apply wX | (apply wY [] hTT cfNb_ok noM_ok mixed; (focus kernel_rfl)))); (focus (simp only [Tryz.f77, cfNb, c125, hlt', hdR, hfl, imp_self, false_implies, List.length_map, go_sem]; with_reducible rfl))) | (with_reducible refine wZ hTT cfNb_ok noM_ok ?_) | (with_reducible refine wa ?_; refine And.intro ?_ ?_; (focus kernel_rfl)))
      exact ⟨rfl, rfl, _, rfl, rfl⟩
    · rw [List.take_of_length_le (by omega)]
      generalize rowsF s ls = A at hdR hRall hRn hRl ⊢
      repeat (first | (with_reducible (first | apply wA | ((fail_if_success (refine RunQ.seq (x := .region 7 _ _) ?_)); (apply wB)) | apply wC | apply wD | apply wE | apply wF | apply wG | apply wH | apply wI | apply wJ | apply wK | apply wL | apply wM | apply wN | apply wO | apply wP | apply wQ rfl | apply wR | apply wS | apply wT | apply wU)) | ((with_reducible (first | apply wV | apply wW | apply wX | (apply wY [] hTT cfNb_ok noM_ok mixed; (focus kernel_rfl)))); (focus (simp only [Tryz.f77, hlt', List.length_map, go_sem]; with_reducible rfl))) | ((fail_if_success (with_reducible show RunQ _ (.region 7 _ _) _ _)); (with_reducible refine wZ hTT cfNb_ok noM_ok ?_)) | (with_reducible refine wa ?_; refine And.intro ?_ ?_; (focus kernel_rfl)))
      refine RunQ.freezeZ 3 2 (es := A.map PV.str) (by simp only [go_sem]; rfl) rfl (by rw [List.length_map]; omega) (closedL_strs A) (by simp only [go_sem]; rfl) (by simp only [go_sem]; rfl) ?_
      repeat (first | (with_reducible (first | apply wA | apply wB | apply wC | apply wD | apply wE | apply wF | apply wG | apply wH | apply wI | apply wJ | apply wK | apply wL | apply wM | apply wN | apply wO | apply wP | apply wQ rfl | apply wR | apply wS | apply wT | apply wU)) | ((with_reducible (first | apply wV | apply wW | apply wX | (apply wY [] hTT cfNb_ok noM_ok mixed; (focus kernel_rfl)))); (focus (simp only [Tryz.f77, cfNb, c125, hlt', hdR, hRall, hRn, imp_self, false_implies, List.length_map, go_sem]; with_reducible rfl))) | (with_reducible refine wZ hTT cfNb_ok noM_ok ?_) | (with_reducible refine wa ?_; refine And.intro ?_ ?_; (focus kernel_rfl)))
      exact ⟨rfl, rfl, _, rfl, rfl⟩
def c77 : List PV → List Box → Option (PRes × List Box)
  | [v], sg => match decFig v with
    | some (s, ls) => if ls.length ≤ 900 ∧ smallF s ls = true then some (.ret (.str (textF s ls)), sg) else none
    | none => none
  | _, _ => none
theorem c77_ok : ConOk Tryz.prog 77 c77 := ConOk.of0 (ent Tryz.func77 rfl) fun args sg r sg' h => by
  unfold c77 at h
  split at h <;> try (cases h; done)
  split at h <;> try (cases h; done)
  rename_i h1
  split at h <;> cases h
  rename_i hc
  obtain ⟨z, rfl, hz⟩ := decFig_inv h1
  exact ⟨_, rfl, rfl, by rw [ltBL_cons, ltB_fig]; rfl, RPrint_77 _ _ _ (zOk_n' hz) hc.1 hc.2⟩
end Go.Pv
namespace Go.Pv
open Go Go.RowKit Go.Proofs
set_option maxRecDepth 200000
set_option maxHeartbeats 8000000
def lbE (x y : Lb) : Bool := x.p == y.p && (x.l == y.l && (x.lo == y.lo && (x.hi == y.hi && x.w == y.w)))
def lbsE : List Lb → List Lb → Bool
  | [], [] => true
  | x :: a, y :: b => lbE x y && lbsE a b
  | _, _ => false
def sameF (s : Int) (a : List Lb) (t : Int) (b : List Lb) : Bool := (s == t) && lbsE a b
theorem lbE_iff {x y : Lb} : lbE x y = true ↔ x = y := by
  unfold lbE
  simp only [Bool.and_eq_true, beq_iff_eq]
  constructor
  · intro ⟨h1, h2, h3, h4, h5⟩
    cases x; cases y
    simp_all
  · intro h
    subst h
    exact ⟨rfl, rfl, rfl, rfl, rfl⟩
theorem lbsE_iff : ∀ {a b : List Lb}, lbsE a b = true ↔ a = b
  | [], [] => ⟨fun _ => rfl, fun _ => rfl⟩
  | [], y :: b => ⟨fun h => (by cases h), fun h => (by cases h)⟩
  | x :: a, [] => ⟨fun h => (by cases h), fun h => (by cases h)⟩
  | x :: a, y :: b => by
    show (lbE x y && lbsE a b) = true ↔ _
    rw [Bool.and_eq_true, lbE_iff, lbsE_iff, List.cons.injEq]
theorem lbsE_len {a b : List Lb} (h : a.length ≠ b.length) : lbsE a b = false := by
  cases e : lbsE a b
  · rfl
  · exact absurd (by rw [lbsE_iff.1 e]) h
theorem SameFigures_78 (s t : Int) (z y : Z) (a b : List Lb) (hz : zOk z (a.map encLb) = true) (hy : zOk y (b.map encLb) = true) (hs : a.length ≤ 100000) : CallOk Tryz.prog 78 [.agg [ii s, .sl z (a.map encLb)], .agg [ii t, .sl y (b.map encLb)]] [] (.ret (.bool (sameF s a t b))) [] := by
  refine CallOk.of0 hTT Tryz.func78 rfl rfl ?_
  unfold sameF
  cases hst : s == t
  · have hst' : (s != t) = true := by unfold bne; rw [hst]; rfl
    repeat (first | (with_reducible (first | apply wA | apply wB | apply wC | apply wD | apply wE | apply wF | apply wG | apply wH | apply wI | apply wJ | apply wK | apply wL | apply wM | apply wN | apply wO | apply wP | apply wQ rfl | apply wR | apply wS | apply wT | apply wU)) | ((with_reducible (first | apply wV | apply wW | apply wX | (apply wY [] hTT cf0_ok noM_ok mixed; (focus kernel_rfl)))); (focus (simp only [Tryz.f78, hst', go_sem]; with_reducible rfl))) | (with_reducible refine wZ hTT cf0_ok noM_ok ?_) | (with_reducible refine wa ?_; refine And.intro ?_ ?_; (focus kernel_rfl)))
    exact ⟨rfl, rfl, _, rfl, rfl⟩
  have hst' : (s != t) = false := by unfold bne; rw [hst]; rfl
  by_cases hl : a.length = b.length
  case neg =>
    have hl' : ((a.length : Int) != (b.length : Int)) = true := bne_true (by omega)
    rw [lbsE_len hl]
    repeat (first | (with_reducible (first | apply wA | apply wB | apply wC | apply wD | apply wE | apply wF | apply wG | apply wH | apply wI | apply wJ | apply wK | apply wL | apply wM | apply wN | apply wO | apply wP | apply wQ rfl | apply wR | apply wS | apply wT | apply wU)) | ((with_reducible (first | apply wV | apply wW | apply wX | (apply wY [] hTT cf0_ok noM_ok mixed; (focus kernel_rfl)))); (focus (simp only [Tryz.f78, hst', hl', List.length_map, go_sem]; with_reducible rfl))) | (with_reducible refine wZ hTT cf0_ok noM_ok ?_) | (with_reducible refine wa ?_; refine And.intro ?_ ?_; (focus kernel_rfl)))
    exact ⟨rfl, rfl, _, rfl, rfl⟩
  have hl' : ((a.length : Int) != (b.length : Int)) = false := by rw [hl]; exact bne_self_eq_false _
  repeat (first | (with_reducible (first | apply wA | apply wB | apply wC | apply wD | apply wE | apply wF | apply wG | apply wH | apply wI | apply wJ | apply wK | apply wL | apply wM | apply wN | apply wO | apply wP | apply wQ rfl | apply wR | apply wS | apply wT | apply wU)) | ((with_reducible (first | apply wV | apply wW | apply wX | (apply wY [] hTT cf0_ok noM_ok mixed; (focus kernel_rfl)))); (focus (simp only [Tryz.f78, hst', hl', List.length_map, go_sem]; with_reducible rfl))) | (with_reducible refine wZ hTT cf0_ok noM_ok ?_) | (with_reducible refine wa ?_; refine And.intro ?_ ?_; (focus kernel_rfl)))
  refine RunQ.keep [5, 4, 3, 2] (by simp only [go_sem]; rfl) ?_
  refine RunQ.loop (fun i s' => lbsE a b = lbsE (a.drop i) (b.drop i) ∧ s' = ⟨[(5, ii i), (4, .bool false), (3, .bp 1 0), (2, .bp 0 0)], 38, [.var [ii s, .sl z (a.map encLb)] false, .var [ii t, .sl y (b.map encLb)] false]⟩) a.length ⟨rfl, rfl⟩ ?_
  rintro i _ hi ⟨hm, rfl⟩
  by_cases hlt : i < a.length
  · obtain ⟨x, hx⟩ : ∃ x, a[i]? = some x := ⟨_, List.getElem?_eq_getElem hlt⟩
    obtain ⟨w, hw⟩ : ∃ w, b[i]? = some w := ⟨_, List.getElem?_eq_getElem (by omega)⟩
    have hx' : (a.map encLb)[i]? = some (.agg [ii x.p, ii x.l, ii x.lo, ii x.hi, ii x.w]) := map_get hx
    have hw' : (b.map encLb)[i]? = some (.agg [ii w.p, ii w.l, ii w.lo, ii w.hi, ii w.w]) := map_get hw
    have hlt' : (i : Int) < a.length := by omega
    have hza : z ≠ .n := fun e => by have := zOk_map hz e; rw [this] at hlt; simp at hlt
    have hzb : y ≠ .n := fun e => by have := zOk_map hy e; rw [this] at hl; rw [hl] at hlt; simp at hlt
    have e4 : IntKind.i64.wrap ((i : Int) + 1) = ((i + 1 : Nat) : Int) := wrap_id (by omega) (by omega)
    rw [drop_get hx, drop_get hw] at hm
    have hm : lbsE a b = (lbE x w && lbsE (a.drop (i + 1)) (b.drop (i + 1))) := hm
    cases hxy : lbE x w
    · rw [hxy, Bool.false_and] at hm
      unfold lbE at hxy
      rw [hm]
      repeat (first | (with_reducible (first | apply wA | apply wB | apply wC | apply wD | apply wE | apply wF | apply wG | apply wH | apply wI | apply wJ | apply wK | apply wL | apply wM | apply wN | apply wO | apply wP | apply wQ rfl | apply wR | apply wS | apply wT | apply wU)) | ((with_reducible (first | apply wV | apply wW | apply wX | (apply wY [] hTT cf0_ok noM_ok mixed; (focus kernel_rfl)))); (focus (simp only [Tryz.f78, hx', hw', hlt', hza, hzb, e4, hxy, closedL_lbs, List.length_map, go_sem]; with_reducible rfl))) | (with_reducible refine wZ hTT cf0_ok noM_ok ?_) | (with_reducible refine wa ?_; refine And.intro ?_ ?_; (focus kernel_rfl)))
      exact ⟨rfl, rfl, _, rfl, rfl⟩
    · rw [hxy, Bool.true_and] at hm
      unfold lbE at hxy
      repeat (first | (with_reducible (first | apply wA | apply wB | apply wC | apply wD | apply wE | apply wF | apply wG | apply wH | apply wI | apply wJ | apply wK | apply wL | apply wM | apply wN | apply wO | apply wP | apply wQ rfl | apply wR | apply wS | apply wT | apply wU)) | ((with_reducible (first | apply wV | apply wW | apply wX | (apply wY [] hTT cf0_ok noM_ok mixed; (focus kernel_rfl)))); (focus (simp only [Tryz.f78, hx', hw', hlt', hza, hzb, e4, hxy, closedL_lbs, List.length_map, go_sem]; with_reducible rfl))) | (with_reducible refine wZ hTT cf0_ok noM_ok ?_) | (with_reducible refine wa ?_; refine And.intro ?_ ?_; (focus kernel_rfl)))
      refine roundQ.t 2 [5, 4, 3, 2] hlt (by simp only [ltB_lbs, go_sem]) ⟨hm, by simp only [go_sem]⟩
  · have hlt' : ¬ (i : Int) < a.length := by omega
    rw [List.drop_eq_nil_of_le (by omega), List.drop_eq_nil_of_le (by omega)] at hm
    rw [hm]
    repeat (first | (with_reducible (first | apply wA | apply wB | apply wC | apply wD | apply wE | apply wF | apply wG | apply wH | apply wI | apply wJ | apply wK | apply wL | apply wM | apply wN | apply wO | apply wP | apply wQ rfl | apply wR | apply wS | apply wT | apply wU)) | ((with_reducible (first | apply wV | apply wW | apply wX | (apply wY [] hTT cf0_ok noM_ok mixed; (focus kernel_rfl)))); (focus (simp only [Tryz.f78, hlt', List.length_map, go_sem]; with_reducible rfl))) | (with_reducible refine wZ hTT cf0_ok noM_ok ?_) | (with_reducible refine wa ?_; refine And.intro ?_ ?_; (focus kernel_rfl)))
    exact ⟨rfl, rfl, _, rfl, rfl⟩
def c78 : List PV → List Box → Option (PRes × List Box)
  | [v, w], sg => match decFig v, decFig w with
    | some (s, a), some (t, b) => if a.length ≤ 100000 then some (.ret (.bool (sameF s a t b)), sg) else none
    | _, _ => none
  | _, _ => none
theorem c78_ok : ConOk Tryz.prog 78 c78 := ConOk.of0 (ent Tryz.func78 rfl) fun args sg r sg' h => by
  unfold c78 at h
  split at h <;> try (cases h; done)
  split at h <;> try (cases h; done)
  rename_i h1 h2
  split at h <;> cases h
  rename_i hc
  obtain ⟨z, rfl, hz⟩ := decFig_inv h1
  obtain ⟨y, rfl, hy⟩ := decFig_inv h2
  exact ⟨_, rfl, rfl, by rw [ltBL_cons, ltB_fig, ltBL_cons, ltB_fig]; rfl, SameFigures_78 _ _ _ _ _ _ (zOk_n' hz) (zOk_n' hy) hc⟩
end Go.Pv
namespace Go.Pv
open Go Go.RowKit Go.Proofs
set_option maxRecDepth 200000
set_option maxHeartbeats 8000000
theorem meJ_a : meJ 202 "kelir/joint.word" = some 157 := by unfold meJ; simp
theorem meJ_b : meJ 202 "kelir/joint.numbers" = some 241 := by unfold meJ; simp
theorem meJ_c : meJ 204 "kelir/joint.word" = some 158 := by unfold meJ; simp
theorem meJ_d : meJ 204 "kelir/joint.numbers" = some 242 := by unfold meJ; simp
theorem word_157 (s : Int) : CallOk Tryz.prog 157 [ii s] [] (.ret (.str figW)) [] := by
  refine CallOk.of0 hTT Tryz.func157 rfl rfl ?_
  repeat (first | (with_reducible (first | apply wA | apply wB | apply wC | apply wD | apply wE | apply wF | apply wG | apply wH | apply wI | apply wJ | apply wK | apply wL | apply wM | apply wN | apply wO | apply wP | apply wQ rfl | apply wR | apply wS | apply wT | apply wU)) | ((with_reducible (first | apply wV | apply wW | apply wX | (apply wY [] hTT cf0_ok noM_ok mixed; (focus kernel_rfl)))); (focus (simp only [Tryz.f157, go_sem]; with_reducible rfl))) | (with_reducible refine wZ hTT cf0_ok noM_ok ?_) | (with_reducible refine wa ?_; refine And.intro ?_ ?_; (focus kernel_rfl)))
  exact ⟨rfl, rfl, _, rfl, rfl⟩
theorem word_158 (x : Lb) : CallOk Tryz.prog 158 [encLb x] [] (.ret (.str limbW)) [] := by
  refine CallOk.of0 hTT Tryz.func158 rfl rfl ?_
  unfold encLb
  repeat (first | (with_reducible (first | apply wA | apply wB | apply wC | apply wD | apply wE | apply wF | apply wG | apply wH | apply wI | apply wJ | apply wK | apply wL | apply wM | apply wN | apply wO | apply wP | apply wQ rfl | apply wR | apply wS | apply wT | apply wU)) | ((with_reducible (first | apply wV | apply wW | apply wX | (apply wY [] hTT cf0_ok noM_ok mixed; (focus kernel_rfl)))); (focus (simp only [Tryz.f158, go_sem]; with_reducible rfl))) | (with_reducible refine wZ hTT cf0_ok noM_ok ?_) | (with_reducible refine wa ?_; refine And.intro ?_ ?_; (focus kernel_rfl)))
  exact ⟨rfl, rfl, _, rfl, rfl⟩
theorem numbers_241 (s : Int) : CallOk Tryz.prog 241 [ii s] [] (.ret (.sl .f [ii s])) [] := by
  refine CallOk.of0 hTT Tryz.func241 rfl rfl ?_
  repeat (first | (with_reducible (first | apply wA | apply wB | apply wC | apply wD | apply wE | apply wF | apply wG | apply wH | apply wI | apply wJ | apply wK | apply wL | apply wM | apply wN | apply wO | apply wP | apply wQ rfl | apply wR | apply wS | apply wT | apply wU)) | ((with_reducible (first | apply wV | apply wW | apply wX | (apply wY [] hTT cf0_ok noM_ok mixed; (focus kernel_rfl)))); (focus (simp only [Tryz.f241, go_sem]; with_reducible rfl))) | (with_reducible refine wZ hTT cf0_ok noM_ok ?_) | (with_reducible refine wa ?_; refine And.intro ?_ ?_; (focus kernel_rfl)))
  exact ⟨rfl, rfl, _, rfl, rfl⟩
theorem numbers_242 (x : Lb) : CallOk Tryz.prog 242 [encLb x] [] (.ret (.sl .f ((limbNs x).map ii))) [] := by
  refine CallOk.of0 hTT Tryz.func242 rfl rfl ?_
  unfold encLb
  repeat (first | (with_reducible (first | apply wA | apply wB | apply wC | apply wD | apply wE | apply wF | apply wG | apply wH | apply wI | apply wJ | apply wK | apply wL | apply wM | apply wN | apply wO | apply wP | apply wQ rfl | apply wR | apply wS | apply wT | apply wU)) | ((with_reducible (first | apply wV | apply wW | apply wX | (apply wY [] hTT cf0_ok noM_ok mixed; (focus kernel_rfl)))); (focus (simp only [Tryz.f242, go_sem]; with_reducible rfl))) | (with_reducible refine wZ hTT cf0_ok noM_ok ?_) | (with_reducible refine wa ?_; refine And.intro ?_ ?_; (focus kernel_rfl)))
  exact ⟨rfl, rfl, _, rfl, rfl⟩
def cfNe : CallF := cfAdd cf0 152 c152
theorem cfNe_ok : CallFOk Tryz.prog cfNe := cfAdd_ok cf0_ok c152_ok
theorem row_151 (t fw fn : Nat) (v : PV) (w : List UInt8) (ns : List Int) (m1 : meJ t "kelir/joint.word" = some fw) (m2 : meJ t "kelir/joint.numbers" = some fn) (e1 : Enters Tryz.prog fw) (e2 : Enters Tryz.prog fn) (h1 : CallOk Tryz.prog fw [v] [] (.ret (.str w)) []) (h2 : CallOk Tryz.prog fn [v] [] (.ret (.sl .f (ns.map ii))) [])
    (hlv : ltBL 0 [v] = true) (hne : fn ≠ fw) (h152 : fw ≠ 152 ∧ fn ≠ 152) (hn : ns.length ≤ 1000) (hw : w.length ≤ 1000) (hb : ∀ n ∈ ns, n.natAbs < 1000000) : CallOk Tryz.prog 151 [.iface t v] [] (.ret (.str (rowF w ns))) [] := by
  refine CallOk.of0 hTT Tryz.func151 rfl rfl ?_
  have hcf := cfAt_ok (cfAt_ok cfNe_ok e1 h1 hlv) e2 h2 hlv
  have n1 : (fw = fn) = False := eq_false fun e => hne e.symm
  repeat (first | (with_reducible (first | apply wA | apply wB | apply wC | apply wD | apply wE | apply wF | apply wG | apply wH | apply wI | apply wJ | apply wK | apply wL | apply wM | apply wN | apply wO | apply wP | apply wQ rfl | apply wR | apply wS | apply wT | apply wU)) | ((with_reducible (first | apply wV | apply wW | apply wX | (apply wY [] hTT hcf meJ_ok mixed; (focus kernel_rfl)))); (focus (simp only [Tryz.f151, cfAt, m1, m2, n1, List.length_map, go_sem]; with_reducible rfl))) | (with_reducible refine wZ hTT hcf meJ_ok ?_) | (with_reducible refine wa ?_; refine And.intro ?_ ?_; (focus kernel_rfl)))
  refine RunQ.keep [11, 10, 9, 3, 2] (by simp only [go_sem]; rfl) ?_
  refine RunQ.loop (fun i s' => ∃ a : List UInt8, rowF w ns = rowF a (ns.drop i) ∧ a.length ≤ w.length + 8 * i ∧ s' = ⟨[(11, ii i), (10, ii ns.length), (9, .sl .f (ns.map ii)), (3, .str a), (2, .str [])], 22, []⟩) ns.length ⟨w, rfl, Nat.le_add_right _ _, rfl⟩ ?_
  rintro i _ hi ⟨a, hm, hal, rfl⟩
  by_cases hlt : i < ns.length
  · obtain ⟨x, hx⟩ : ∃ x, ns[i]? = some x := ⟨_, List.getElem?_eq_getElem hlt⟩
    have hx' : (ns.map ii)[i]? = some (ii x) := map_get hx
    have hlt' : (i : Int) < ns.length := by omega
    have e4 : IntKind.i64.wrap ((i : Int) + 1) = ((i + 1 : Nat) : Int) := wrap_id (by omega) (by omega)
    have hbx := hb x (List.mem_of_getElem? hx)
    have hlx := itoa_len 5 x hbx (Nat.le_refl _)
    have p1 : -9223372036854775808 ≤ x := by omega
    have p2 : x ≤ 9223372036854775807 := by omega
    have p3 : (itoaF x).length ≤ maxLen := by unfold maxLen; omega
    have l1 : 1 + (itoaF x).length ≤ maxLen := by unfold maxLen; omega
    have l2 : a.length + ((itoaF x).length + 1) ≤ maxLen := by unfold maxLen; omega
    rw [drop_get hx] at hm
    have hm : rowF w ns = rowF (a ++ 32 :: itoaF x) (ns.drop (i + 1)) := hm
    repeat (first | (with_reducible (first | apply wA | apply wB | apply wC | apply wD | apply wE | apply wF | apply wG | apply wH | apply wI | apply wJ | apply wK | apply wL | apply wM | apply wN | apply wO | apply wP | apply wQ rfl | apply wR | apply wS | apply wT | apply wU)) | ((with_reducible (first | apply wV | apply wW | apply wX | (apply wY [] hTT cfNe_ok meJ_ok mixed; (focus kernel_rfl)))); (focus (simp only [Tryz.f151, cfNe, c152, hx', hlt', e4, p1, p2, p3, l1, l2, List.length_map, go_sem]; with_reducible rfl))) | (with_reducible refine wZ hTT cfNe_ok meJ_ok ?_) | (with_reducible refine wa ?_; refine And.intro ?_ ?_; (focus kernel_rfl)))
    refine roundQ.t 0 [11, 10, 9, 3, 2] hlt (by simp only [ltB_is, go_sem]) ⟨_, hm, by simp only [List.length_append, List.length_cons]; omega, by simp only [go_sem]⟩
  · have hlt' : ¬ (i : Int) < ns.length := by omega
    rw [List.drop_eq_nil_of_le (by omega)] at hm
    have hm : rowF w ns = a := hm
    rw [hm]
    repeat (first | (with_reducible (first | apply wA | apply wB | apply wC | apply wD | apply wE | apply wF | apply wG | apply wH | apply wI | apply wJ | apply wK | apply wL | apply wM | apply wN | apply wO | apply wP | apply wQ rfl | apply wR | apply wS | apply wT | apply wU)) | ((with_reducible (first | apply wV | apply wW | apply wX | (apply wY [] hTT cfNe_ok meJ_ok mixed; (focus kernel_rfl)))); (focus (simp only [Tryz.f151, hlt', go_sem]; with_reducible rfl))) | (with_reducible refine wZ hTT cfNe_ok meJ_ok ?_) | (with_reducible refine wa ?_; refine And.intro ?_ ?_; (focus kernel_rfl)))
    exact ⟨rfl, rfl, _, rfl, rfl⟩
theorem row_head (s : Int) (hs : s.natAbs < 1000000) : CallOk Tryz.prog 151 [.iface 202 (ii s)] [] (.ret (.str (rowF figW [s]))) [] :=
  row_151 202 157 241 (ii s) figW [s] meJ_a meJ_b (ent Tryz.func157 rfl) (ent Tryz.func241 rfl) (word_157 s) (numbers_241 s) rfl (by decide) (by decide) (show 1 ≤ 1000 by decide) (by decide) (fun n hn => by rw [List.mem_singleton.1 hn]; exact hs)
theorem row_limb (x : Lb) (hx : (limbNs x).all smallN = true) : CallOk Tryz.prog 151 [.iface 204 (encLb x)] [] (.ret (.str (rowF limbW (limbNs x)))) [] :=
  row_151 204 158 242 (encLb x) limbW (limbNs x) meJ_c meJ_d (ent Tryz.func158 rfl) (ent Tryz.func242 rfl) (word_158 x) (numbers_242 x) (by rfl) (by decide) (by decide) (show 5 ≤ 1000 by decide) (by decide) (fun n hn => by simpa [smallN] using List.all_eq_true.1 hx n hn)
end Go.Pv
