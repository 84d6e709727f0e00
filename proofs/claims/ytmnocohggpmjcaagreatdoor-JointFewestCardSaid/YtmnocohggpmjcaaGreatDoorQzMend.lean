/- Contracts: lists of joints; a figure some joints of which are mended. -/
import Derived.Test.YtmnocohggpmjcaaGreatDoorQgEnds
import Derived.Test.YtmnocohggpmjcaaGreatDoorQmLists
import Derived.Test.YtmnocohggpmjcaaGreatDoorQdWalk
import Derived.Test.YtmnocohggpmjcaaGreatDoorQxLoose
set_option linter.all false
namespace Go.Pv
open Go Go.RowKit Go.Proofs
set_option maxRecDepth 10000
set_option maxHeartbeats 4000000
def jntA (ls : List Lb) : Option Int → List Int → Bool
  | _, [] => true
  | p, x :: r => limbG ls x && (match p with | none => true | some y => decide (y < x)) && jntA ls (some x) r
def jntG (ls : List Lb) (l : List Int) : Bool := jntA ls none l
def prevI (l : List Int) (i : Nat) : Option Int := if i = 0 then none else l[i - 1]?
theorem jnt_step {ls : List Lb} {l : List Int} {i : Nat} {x : Int} (h : l[i]? = some x) (p : Option Int) : jntA ls p (l.drop i) = (limbG ls x && (match p with | none => true | some y => decide (y < x)) && jntA ls (some x) (l.drop (i + 1))) := by
  obtain ⟨h1, h2⟩ := List.getElem?_eq_some_iff.1 h
  rw [List.drop_eq_getElem_cons h1, h2]
  rfl
def cfZa : CallF := cfAdd cf0 28 c88
theorem cfZa_ok : CallFOk Tryz.prog cfZa := cfAdd_ok cf0_ok c28_ok
theorem Joints_63 (s : Int) (z zl : Z) (ls : List Lb) (l : List Int) (hzo : zOk z (ls.map encLb) = true) (hl : zOk zl (l.map ii) = true) (hs : ls.length ≤ maxLen) (hln : l.length ≤ 1000000) :
    CallOk Tryz.prog 63 [.agg [ii s, .sl z (ls.map encLb)], .sl zl (l.map ii)] [] (.ret (.bool (jntG ls l))) [] := by
  refine CallOk.of0 hTT Tryz.func63 rfl rfl ?_
  have hd := decFig_enc s z ls hzo
  repeat (first | (with_reducible (first | apply wA | apply wB | apply wC | apply wD | apply wE | apply wF | apply wG | apply wH | apply wI | apply wJ | apply wK | apply wL | apply wM | apply wN | apply wO | apply wP | apply wQ rfl | apply wR | apply wS | apply wT | apply wU)) | ((with_reducible (first | apply wV | apply wW | apply wX | (apply wY [] hTT cfZa_ok noM_ok mixed; (focus kernel_rfl)))); (focus (simp only [Tryz.f63, go_sem]; with_reducible rfl))) | (with_reducible refine wZ hTT cfZa_ok noM_ok ?_) | (with_reducible refine wa ?_; refine And.intro ?_ ?_; (focus kernel_rfl)))
  refine RunQ.keep [5, 2, 1] (by simp only [go_sem]; rfl) ?_
  refine RunQ.loop (fun i s' => jntG ls l = jntA ls (prevI l i) (l.drop i) ∧ s' = ⟨[(5, ii i), (2, .bp 0 0), (1, .sl zl (l.map ii))], 35, [.var [ii s, .sl z (ls.map encLb)] false]⟩) l.length ⟨rfl, rfl⟩ ?_
  rintro i _ hi ⟨hj, rfl⟩
  by_cases hlt : i < l.length
  · obtain ⟨x, hx⟩ : ∃ x, l[i]? = some x := ⟨_, List.getElem?_eq_getElem hlt⟩
    have hx' : (l.map ii)[i]? = some (ii x) := map_get hx
    have hlt' : (i : Int) < l.length := by omega
    have hzn : zl ≠ .n := fun e => by have := zOk_map hl e; rw [this] at hlt; simp at hlt
    have e4 : IntKind.i64.wrap ((i : Int) + 1) = ((i + 1 : Nat) : Int) := wrap_id (by omega) (by omega)
    have hj2 := hj
    rw [jnt_step hx] at hj2
    have hpn : prevI l (i + 1) = some x := by unfold prevI; rw [if_neg (by omega)]; exact hx
    cases h1 : limbG ls x
    · rw [h1] at hj2
      simp only [Bool.false_and] at hj2
      rw [hj2]
      repeat (first | (with_reducible (first | apply wA | apply wB | apply wC | apply wD | apply wE | apply wF | apply wG | apply wH | apply wI | apply wJ | apply wK | apply wL | apply wM | apply wN | apply wO | apply wP | apply wQ rfl | apply wR | apply wS | apply wT | apply wU)) | ((with_reducible (first | apply wV | apply wW | apply wX | (apply wY [] hTT cfZa_ok noM_ok mixed; (focus kernel_rfl)))); (focus (simp only [Tryz.f63, cfZa, c88, hd, hs, hx', hlt', hzn, h1, closedL_lbs, List.length_map, go_sem]; with_reducible rfl))) | (with_reducible refine wZ hTT cfZa_ok noM_ok ?_) | (with_reducible refine wa ?_; refine And.intro ?_ ?_; (focus kernel_rfl)))
      exact ⟨rfl, rfl, _, rfl, rfl⟩
    rw [h1, Bool.true_and] at hj2
    by_cases hi0 : i = 0
    · have hpi : prevI l i = none := by unfold prevI; rw [if_pos hi0]
      rw [hpi] at hj2
      have hj3 : jntG ls l = jntA ls (prevI l (i + 1)) (l.drop (i + 1)) := by rw [hj2, hpn]; simp only [Bool.true_and]
      have g0 : ¬ (0 : Int) < (i : Int) := by omega
      repeat (first | (with_reducible (first | apply wA | apply wB | apply wC | apply wD | apply wE | apply wF | apply wG | apply wH | apply wI | apply wJ | apply wK | apply wL | apply wM | apply wN | apply wO | apply wP | apply wQ rfl | apply wR | apply wS | apply wT | apply wU)) | ((with_reducible (first | apply wV | apply wW | apply wX | (apply wY [] hTT cfZa_ok noM_ok mixed; (focus kernel_rfl)))); (focus (simp only [Tryz.f63, cfZa, c88, hd, hs, hx', hlt', hzn, h1, g0, e4, gt_iff_lt, closedL_lbs, Int.toNat_natCast, Int.natCast_nonneg, List.length_map, go_sem]; with_reducible rfl))) | (with_reducible refine wZ hTT cfZa_ok noM_ok ?_) | (with_reducible refine wa ?_; refine And.intro ?_ ?_; (focus kernel_rfl)))
      refine roundQ.t 1 [5, 2, 1] hlt (by simp only [ltB_lbs, ltB_is, ltB_isl, go_sem]) ⟨hj3, by simp only [go_sem]⟩
    · obtain ⟨y, hy⟩ : ∃ y, l[i - 1]? = some y := ⟨_, List.getElem?_eq_getElem (by omega)⟩
      have hpi : prevI l i = some y := by unfold prevI; rw [if_neg hi0]; exact hy
      have hy' : (l.map ii)[i - 1]? = some (ii y) := map_get hy
      have g0 : (0 : Int) < (i : Int) := by omega
      have e5 : IntKind.i64.wrap ((i : Int) - 1) = ((i - 1 : Nat) : Int) := by rw [wrap_id (by omega) (by omega)]; omega
      have hly : ((i - 1 : Nat) : Int) < l.length := by omega
      rw [hpi] at hj2
      by_cases hxy : x ≤ y
      · have : decide (y < x) = false := by simp; omega
        simp only [this, Bool.false_and] at hj2
        rw [hj2]
        repeat (first | (with_reducible (first | apply wA | apply wB | apply wC | apply wD | apply wE | apply wF | apply wG | apply wH | apply wI | apply wJ | apply wK | apply wL | apply wM | apply wN | apply wO | apply wP | apply wQ rfl | apply wR | apply wS | apply wT | apply wU)) | ((with_reducible (first | apply wV | apply wW | apply wX | (apply wY [] hTT cfZa_ok noM_ok mixed; (focus kernel_rfl)))); (focus (simp only [Tryz.f63, cfZa, c88, hd, hs, hx', hy', hlt', hly, hzn, h1, g0, e5, hxy, gt_iff_lt, closedL_lbs, Int.toNat_natCast, Int.natCast_nonneg, List.length_map, go_sem]; with_reducible rfl))) | (with_reducible refine wZ hTT cfZa_ok noM_ok ?_) | (with_reducible refine wa ?_; refine And.intro ?_ ?_; (focus kernel_rfl)))
        exact ⟨rfl, rfl, _, rfl, rfl⟩
      · have hyx : decide (y < x) = true := by simp; omega
        have hj3 : jntG ls l = jntA ls (prevI l (i + 1)) (l.drop (i + 1)) := by rw [hj2, hpn]; simp only [hyx, Bool.true_and]
        repeat (first | (with_reducible (first | apply wA | apply wB | apply wC | apply wD | apply wE | apply wF | apply wG | apply wH | apply wI | apply wJ | apply wK | apply wL | apply wM | apply wN | apply wO | apply wP | apply wQ rfl | apply wR | apply wS | apply wT | apply wU)) | ((with_reducible (first | apply wV | apply wW | apply wX | (apply wY [] hTT cfZa_ok noM_ok mixed; (focus kernel_rfl)))); (focus (simp only [Tryz.f63, cfZa, c88, hd, hs, hx', hy', hlt', hly, hzn, h1, g0, e4, e5, hxy, gt_iff_lt, closedL_lbs, Int.toNat_natCast, Int.natCast_nonneg, List.length_map, go_sem]; with_reducible rfl))) | (with_reducible refine wZ hTT cfZa_ok noM_ok ?_) | (with_reducible refine wa ?_; refine And.intro ?_ ?_; (focus kernel_rfl)))
        refine roundQ.t 1 [5, 2, 1] hlt (by simp only [ltB_lbs, ltB_is, ltB_isl, go_sem]) ⟨hj3, by simp only [go_sem]⟩
  · have hlt' : ¬ (i : Int) < l.length := by omega
    obtain rfl : i = l.length := by omega
    rw [hj, List.drop_length]
    repeat (first | (with_reducible (first | apply wA | apply wB | apply wC | apply wD | apply wE | apply wF | apply wG | apply wH | apply wI | apply wJ | apply wK | apply wL | apply wM | apply wN | apply wO | apply wP | apply wQ rfl | apply wR | apply wS | apply wT | apply wU)) | ((with_reducible (first | apply wV | apply wW | apply wX | (apply wY [] hTT cfZa_ok noM_ok mixed; (focus kernel_rfl)))); (focus (simp only [Tryz.f63, hlt', List.length_map, go_sem]; with_reducible rfl))) | (with_reducible refine wZ hTT cfZa_ok noM_ok ?_) | (with_reducible refine wa ?_; refine And.intro ?_ ?_; (focus kernel_rfl)))
    exact ⟨rfl, rfl, _, rfl, rfl⟩
end Go.Pv
namespace Go.Pv
open Go Go.RowKit Go.Proofs
set_option maxRecDepth 10000
set_option maxHeartbeats 4000000
theorem frzX_agg {d : Option Nat} {n : Nat} {sg : List Box} {vs : List PV} (hc : closedL vs = false) : frzX d (n + 1) sg (.agg vs) = (.agg (frzL (frzX d n) sg vs).1, (frzL (frzX d n) sg vs).2) := by
  unfold frzX
  rw [if_neg (by simp [PV.closed, hc])]
  rfl
theorem leave_aggrow {sg : List Box} {id : Nat} {z : Bool} {e : TypeId} {k : Nat} {es : List PV} {frz : Bool} (h : sg[id]? = some (.row z e k es frz)) (hc : closedL es = true) {m : Nat} (hm : m = es.length) {c : PV} (hcc : c.closed = true) : leaveC0 0 (.agg [c, .ms id m]) sg = (.agg [c, .sl (if z then .n else .a) es], []) :=
  leaveF (by rw [frzX_agg (n := 7) (by simp [closedL, PV.closed])]; simp only [frzL, frzX_closed (n := 6) hcc, frzX_row (n := 5) h hc hm]) (by simp [PV.closed, closedL, hc, hcc])
/-- A limb whose joint is mended; a figure's limbs after some were. -/
def mdL (x : Lb) : Lb := { x with w := 0 }
def menS (ls : List Lb) (n : Int) : List Lb := match ls[n.toNat]? with
  | some x => ls.set n.toNat (mdL x)
  | none => ls
def menG (ls : List Lb) (js : List Int) : List Lb := js.foldl menS ls
theorem menS_len (ls : List Lb) (n : Int) : (menS ls n).length = ls.length := by
  unfold menS
  split
  · rw [List.length_set]
  · rfl
theorem menG_len : ∀ (js : List Int) (ls : List Lb), (menG ls js).length = ls.length
  | [], _ => rfl
  | n :: js, ls => by
    show (menG (menS ls n) js).length = _
    rw [menG_len js, menS_len]
theorem menG_snoc (ls : List Lb) (js : List Int) (n : Int) : menG ls (js ++ [n]) = menS (menG ls js) n := by
  unfold menG
  rw [List.foldl_append]; rfl
theorem jnt_limb {ls : List Lb} : ∀ {js : List Int} {p : Option Int}, jntA ls p js = true → ∀ n ∈ js, limbG ls n = true
  | [], _, _, n, h => by cases h
  | x :: r, p, h, n, hn => by
    unfold jntA at h
    simp only [Bool.and_eq_true] at h
    rcases List.mem_cons.1 hn with rfl | hn
    · exact h.1.1
    · exact jnt_limb h.2 n hn
theorem all_mLb (l : List Lb) (p : PV → Bool) : (l.map encLb).all p = l.all fun x => p (.agg [ii x.p, ii x.l, ii x.lo, ii x.hi, ii x.w]) := by rw [List.all_map]; rfl
theorem Mended_65 (s : Int) (z zl : Z) (ls : List Lb) (js : List Int) (hzo : zOk z (ls.map encLb) = true) (hl : zOk zl (js.map ii) = true) (hne : ls ≠ []) (hs : ls.length ≤ 1000) (hln : js.length ≤ 1000000) (hj : ∀ n ∈ js, limbG ls n = true) :
    CallOk Tryz.prog 65 [.agg [ii s, .sl z (ls.map encLb)], .sl zl (js.map ii)] [] (.ret (.agg [ii s, .sl .a ((menG ls js).map encLb)])) [] := by
  refine CallOk.ofF hTT Tryz.func65 rfl rfl ?_
  have hz : z ≠ .n := fun e => hne (zOk_map hzo e)
  have he : (ls.map encLb).isEmpty = false := by cases ls with
    | nil => exact absurd rfl hne
    | cons a l => rfl
  have r1 : ls.length * 40 ≤ 140737488355328 := by omega
  have r2 : ls.length ≤ maxLen := by unfold maxLen; omega
  have hall : (ls.map encLb).all (fun y => y.cells.length == 5) = true := by rw [List.all_map]; exact List.all_eq_true.2 fun _ _ => rfl
  have lL : ∀ m (l : List Lb), ltBL m (l.map encLb) = true := fun m l => ltBL_of_closed m _ (closedL_lbs l)
  repeat (first | (with_reducible (first | apply wA | apply wB | apply wC | apply wD | apply wE | apply wF | apply wG | apply wH | apply wI | apply wJ | apply wK | apply wL | apply wM | apply wN | apply wO | apply wP | apply wQ rfl | apply wR | apply wS | apply wT | apply wU)) | ((with_reducible (first | apply wV | apply wW | apply wX | (apply wY [] hTT cf0_ok noM_ok mixed; (focus kernel_rfl)))); (focus (simp only [Tryz.f65, hz, he, r1, r2, all_mLb, all_t, List.length_map, go_sem]; with_reducible rfl))) | (with_reducible refine wZ hTT cf0_ok noM_ok ?_) | (with_reducible refine wa ?_; refine And.intro ?_ ?_; (focus kernel_rfl)))
  refine RunQ.keep [6, 5, 4, 1] (by simp only [go_sem]; rfl) ?_
  refine RunQ.loop (fun i s' => s' = ⟨[(6, ii i), (5, .bp 2 0), (4, .bp 1 0), (1, .sl zl (js.map ii))], 27, [.var [ii s, .sl z (ls.map encLb)] false, .var [ii 0, .sl .n []] false, .var [ii s, .ms 3 ls.length] false, .row false 44 5 ((menG ls (js.take i)).map encLb) false]⟩) js.length rfl ?_
  rintro i _ hi rfl
  have hml := menG_len (js.take i) ls
  by_cases hlt : i < js.length
  · obtain ⟨n, hn⟩ : ∃ n, js[i]? = some n := ⟨_, List.getElem?_eq_getElem hlt⟩
    have hn' : (js.map ii)[i]? = some (ii n) := map_get hn
    have hlt' : (i : Int) < js.length := by omega
    have hzn : zl ≠ .n := fun e => by have := zOk_map hl e; rw [this] at hlt; simp at hlt
    have e4 : IntKind.i64.wrap ((i : Int) + 1) = ((i + 1 : Nat) : Int) := wrap_id (by omega) (by omega)
    have hli := hj n (List.mem_of_getElem? hn)
    simp only [limbG, inB, decide_eq_true_eq, Bool.and_eq_true] at hli
    have h0 : 0 ≤ n := by omega
    have h1 : n < ls.length := by omega
    have htk : js.take (i + 1) = js.take i ++ [n] := by rw [List.take_add_one, hn]; rfl
    have hmt : menG ls (js.take (i + 1)) = menS (menG ls (js.take i)) n := by rw [htk, menG_snoc]
    generalize menG ls (js.take i) = M at hml hmt ⊢
    obtain ⟨x, hx⟩ : ∃ x, M[n.toNat]? = some x := ⟨_, List.getElem?_eq_getElem (by omega)⟩
    have hx' : (M.map encLb)[n.toNat]? = some (.agg [ii x.p, ii x.l, ii x.lo, ii x.hi, ii x.w]) := map_get hx
    have hms : menS M n = M.set n.toNat (mdL x) := by unfold menS; rw [hx]
    have hss : setElem (.agg [ii x.p, ii x.l, ii x.lo, ii x.hi, ii x.w]) 4 [PV.int .i64 0] = encLb (mdL x) := rfl
    have hst : (M.map encLb).set n.toNat (encLb (mdL x)) = (M.set n.toNat (mdL x)).map encLb := by rw [List.map_set]
    repeat (first | (with_reducible (first | apply wA | apply wB | apply wC | apply wD | apply wE | apply wF | apply wG | apply wH | apply wI | apply wJ | apply wK | apply wL | apply wM | apply wN | apply wO | apply wP | apply wQ rfl | apply wR | apply wS | apply wT | apply wU)) | ((with_reducible (first | apply wV | apply wW | apply wX | (apply wY [] hTT cf0_ok noM_ok mixed; (focus kernel_rfl)))); (focus (simp only [Tryz.f65, hlt', hn', hzn, h0, h1, hx', hml, hss, hst, e4, List.length_map, go_sem]; with_reducible rfl))) | (with_reducible refine wZ hTT cf0_ok noM_ok ?_) | (with_reducible refine wa ?_; refine And.intro ?_ ?_; (focus kernel_rfl)))
    refine roundQ.t 4 [6, 5, 4, 1] hlt (by simp only [lL, ltB_lbs, ltB_is, ltB_isl, go_sem]) (by rw [hmt, hms]; simp only [go_sem])
  · have hlt' : ¬ (i : Int) < js.length := by omega
    obtain rfl : i = js.length := by omega
    rw [List.take_length] at hml ⊢
    repeat (first | (with_reducible (first | apply wA | apply wB | apply wC | apply wD | apply wE | apply wF | apply wG | apply wH | apply wI | apply wJ | apply wK | apply wL | apply wM | apply wN | apply wO | apply wP | apply wQ rfl | apply wR | apply wS | apply wT | apply wU)) | ((with_reducible (first | apply wV | apply wW | apply wX | (apply wY [] hTT cf0_ok noM_ok mixed; (focus kernel_rfl)))); (focus (simp only [Tryz.f65, hlt', List.length_map, go_sem]; with_reducible rfl))) | (with_reducible refine wZ hTT cf0_ok noM_ok ?_) | (with_reducible refine wa ?_; refine And.intro ?_ ?_; (focus kernel_rfl)))
    exact ⟨rfl, rfl, _, rfl, leave_aggrow (id := 3) (z := false) (frz := false) rfl (closedL_lbs _) (by rw [List.length_map, hml]) rfl⟩
end Go.Pv
namespace Go.Pv
open Go Go.RowKit Go.Proofs
/-- The same limbs, the joints of some mended. -/
inductive Mdd : List Lb → List Lb → Prop
  | nil : Mdd [] []
  | cons {x y : Lb} {r q : List Lb} (hp : y.p = x.p) (hl : y.l = x.l) (hlo : y.lo = x.lo) (hhi : y.hi = x.hi) (hw : y.w = x.w ∨ y.w = 0) (h : Mdd r q) : Mdd (x :: r) (y :: q)
theorem mdd_refl : ∀ ls : List Lb, Mdd ls ls
  | [] => .nil
  | _ :: r => .cons rfl rfl rfl rfl (.inl rfl) (mdd_refl r)
theorem mdd_set : ∀ {ls M : List Lb} (_ : Mdd ls M) (k : Nat) (x : Lb), M[k]? = some x → Mdd ls (M.set k (mdL x))
  | _, _, .nil, k, x, h => by simp at h
  | _, _, .cons hp hl hlo hhi hw h, 0, x, e => by
    simp at e; subst e
    exact .cons hp hl hlo hhi (.inr rfl) h
  | _, _, .cons hp hl hlo hhi hw h, k + 1, x, e => .cons hp hl hlo hhi hw (mdd_set h k x (by simpa using e))
theorem mdd_menS {ls M : List Lb} (h : Mdd ls M) (n : Int) : Mdd ls (menS M n) := by
  unfold menS
  split
  · exact mdd_set h _ _ ‹_›
  · exact h
theorem mdd_menG : ∀ (js : List Int) {ls M : List Lb}, Mdd ls M → Mdd ls (menG M js)
  | [], _, _, h => h
  | n :: js, _, _, h => mdd_menG js (mdd_menS h n)
theorem mdd_len : ∀ {ls M : List Lb}, Mdd ls M → M.length = ls.length
  | _, _, .nil => rfl
  | _, _, .cons _ _ _ _ _ h => by rw [List.length_cons, List.length_cons, mdd_len h]
theorem mdd_pose : ∀ {ls M : List Lb}, Mdd ls M → ∀ ps, poseG M ps = poseG ls ps
  | _, _, .nil, _ => rfl
  | _, _, .cons _ _ hlo hhi _ h, [] => rfl
  | _, _, .cons _ _ hlo hhi _ h, t :: ps => by
    unfold poseG
    rw [hlo, hhi, mdd_pose h ps]
theorem mdd_many : ∀ {ls M : List Lb}, Mdd ls M → ∀ (i m r : Int), manyG i m ls = some r → manyG i m M = some r
  | _, _, .nil, _, _, _, e => e
  | _, _, .cons (x := x) (y := y) hp hl hlo hhi hw h, i, m, r, e => by
    unfold manyG at e ⊢
    split at e
    · rename_i hb
      have hb2 : lbB i y = true := by
        unfold lbB at hb ⊢
        rw [hp, hl, hlo, hhi]
        simp only [Bool.and_eq_true] at hb ⊢
        refine ⟨hb.1, ?_⟩
        rcases hw with e | e
        · rw [e]; exact hb.2
        · rw [e]; rfl
      rw [if_pos hb2, hlo, hhi]
      exact mdd_many h _ _ _ e
    · cases e
theorem mdd_fig {s : Int} {ls M : List Lb} (h : Mdd ls M) (hf : figB s ls = true) : figB s M = true := by
  unfold figB at hf ⊢
  rw [mdd_len h]
  cases e : manyG 0 1 ls with
  | none => rw [e] at hf; simp at hf
  | some m =>
    rw [e] at hf
    rw [mdd_many h _ _ _ e]
    exact hf
theorem mdd_limb {ls M : List Lb} (h : Mdd ls M) (n : Int) : limbG M n = limbG ls n := by
  unfold limbG
  rw [mdd_len h]
theorem mdd_stg {ls M : List Lb} (h : Mdd ls M) (g : Stg) : stgG M g = stgG ls g := by
  unfold stgG
  split
  · rw [mdd_limb h, mdd_limb h]
  · rfl
end Go.Pv
