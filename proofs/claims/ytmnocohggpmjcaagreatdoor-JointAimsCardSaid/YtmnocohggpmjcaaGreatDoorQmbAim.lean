/- The nearest pose with an end at a place, in plain terms. -/
import Derived.Test.YtmnocohggpmjcaaGreatDoorQmaWay
import Derived.Test.YtmnocohggpmjcaaGreatDoorQxCard
import Derived.Test.YtmnocohggpmjcaaGreatDoorQyWay
import Derived.Test.YtmnocohggpmjcaaGreatDoorQlSort
import Derived.Test.YtmnocohggpmjcaaGreatDoorQgEnds
import Derived.Test.YtmnocohggpmjcaaGreatDoorQdWalk
import Derived.Shelf.SlSortCmp.NoneTotal
import Derived.Test.YtmnocohggpmjcaaGreatDoorProg
import Derived.Test.YtmnocohggpmjcaaGreatDoorQfJoint
import Derived.Test.YtmnocohggpmjcaaGreatDoorQoFine
import Derived.Test.YtmnocohggpmjcaaGreatDoorQlLoop
import Derived.Test.YtmnocohggpmjcaaGreatDoorQyRPath
set_option linter.all false
namespace Go.Pv
open Go Go.RowKit Go.Proofs
abbrev Am := List Int × Int
/-- All poses that were met and have the end there, and how far they are. -/
def lstG (Q : Dst) (P : List Int → Bool) (L : List (List Int)) : List Am := (L.filter fun x => hasK Q x && P x).map fun x => (x, dG Q x)
/-- The better one of two, the first if both are as good. -/
def betG (o : Option Am) (x : Am) : Am := match o with
  | none => x
  | some y => if x.2 < y.2 then x else y
def bestF (l : List Am) : Option Am := l.foldl (fun o x => some (betG o x)) none
theorem bestF_snoc (l : List Am) (x : Am) : bestF (l ++ [x]) = some (betG (bestF l) x) := by
  unfold bestF; rw [List.foldl_append]; rfl
theorem bestF_nil : bestF [] = none := rfl
theorem bestF_take {l : List Am} {i : Nat} {x : Am} (h : l[i]? = some x) : bestF (l.take (i + 1)) = some (betG (bestF (l.take i)) x) := by
  rw [List.take_add_one, h]
  exact bestF_snoc _ _
theorem bestF_ne {l : List Am} (h : l ≠ []) : ∃ x, bestF l = some x := by
  obtain ⟨l', x, rfl⟩ : ∃ l' x, l = l' ++ [x] := ⟨l.dropLast, l.getLast h, (List.dropLast_concat_getLast h).symm⟩
  exact ⟨_, bestF_snoc _ _⟩
/-- What is told is among them; none is nearer, and what is as near stands behind. -/
theorem bestF_ok : ∀ (l : List Am), (l.Pairwise fun a b => befG a.1 b.1 = true) → ∀ x, bestF l = some x → x ∈ l ∧ ∀ y ∈ l, x.2 ≤ y.2 ∧ (x.2 = y.2 → befG y.1 x.1 = false) := by
  intro l
  induction hn : l.length generalizing l with
  | zero =>
    intro _ x h
    obtain rfl := List.length_eq_zero_iff.1 hn
    cases h
  | succ n ih =>
    intro hp x h
    have hne : l ≠ [] := fun e => by rw [e] at hn; cases hn
    obtain ⟨l', z, rfl⟩ : ∃ l' z, l = l' ++ [z] := ⟨l.dropLast, l.getLast hne, (List.dropLast_concat_getLast hne).symm⟩
    rw [bestF_snoc] at h
    obtain ⟨hp1, _, hp3⟩ := List.pairwise_append.1 hp
    have hln : l'.length = n := by simpa using hn
    cases hb : bestF l' with
    | none =>
      have hl0 : l' = [] := by
        cases l' with
        | nil => rfl
        | cons a r => obtain ⟨y, hy⟩ := bestF_ne (l := a :: r) (by simp); rw [hb] at hy; cases hy
      subst hl0
      rw [hb] at h
      have h : z = x := by simpa [betG] using h
      subst h
      refine ⟨by simp, fun y hy => ?_⟩
      have : y = z := by simpa using hy
      subst this
      exact ⟨Int.le_refl _, fun _ => befG_irr _⟩
    | some w =>
      obtain ⟨h1, h2⟩ := ih l' hln hp1 w hb
      rw [hb] at h
      have h : betG (some w) z = x := by simpa using h
      unfold betG at h
      dsimp only at h
      by_cases hlt : z.2 < w.2
      · rw [if_pos hlt] at h
        subst h
        refine ⟨by simp, fun y hy => ?_⟩
        rcases List.mem_append.1 hy with hy | hy
        · have := (h2 y hy).1
          exact ⟨by omega, fun e => by omega⟩
        · have : y = z := by simpa using hy
          subst this
          exact ⟨Int.le_refl _, fun _ => befG_irr _⟩
      · rw [if_neg hlt] at h
        subst h
        refine ⟨by simp [h1], fun y hy => ?_⟩
        rcases List.mem_append.1 hy with hy | hy
        · exact h2 y hy
        · have : y = z := by simpa using hy
          subst this
          exact ⟨by omega, fun _ => befG_asy _ _ (hp3 w h1 y (by simp))⟩
theorem lst_mem {Q : Dst} {P : List Int → Bool} {L : List (List Int)} {x : Am} : x ∈ lstG Q P L ↔ x.1 ∈ L ∧ hasK Q x.1 = true ∧ P x.1 = true ∧ x.2 = dG Q x.1 := by
  unfold lstG
  rw [List.mem_map]
  constructor
  · rintro ⟨y, hy, rfl⟩
    obtain ⟨h1, h2⟩ := List.mem_filter.1 hy
    rw [Bool.and_eq_true] at h2
    exact ⟨h1, h2.1, h2.2, rfl⟩
  · rintro ⟨h1, h2, h3, h4⟩
    exact ⟨x.1, List.mem_filter.2 ⟨h1, by rw [h2, h3]; rfl⟩, Prod.ext rfl h4.symm⟩
theorem lst_pair {Q : Dst} {P : List Int → Bool} {L : List (List Int)} (h : L.Pairwise fun a b => befG a b = true) : (lstG Q P L).Pairwise fun a b => befG a.1 b.1 = true := by
  unfold lstG
  rw [List.pairwise_map]
  exact h.sublist List.filter_sublist
theorem lst_snoc {Q : Dst} {P : List Int → Bool} {L : List (List Int)} {i : Nat} {x : List Int} (h : L[i]? = some x) : lstG Q P (L.take (i + 1)) = if (hasK Q x && P x) = true then lstG Q P (L.take i) ++ [(x, dG Q x)] else lstG Q P (L.take i) := by
  unfold lstG
  rw [List.take_add_one, h, List.filter_append, List.map_append]
  show _ ++ ([x].filter _).map _ = _
  rw [List.filter_cons]
  split
  · rfl
  · simp
/-- The nearest pose with the end of a limb at a place. -/
def endAt (s : Int) (ls : List Lb) (n : Int) (p : Pl) (l : List Int) : Bool := decide (endG1 s ls n l = p)
def aimG (s : Int) (ls : List Lb) (g : Stg) (a : List Int) (n : Int) (p : Pl) : Option Am := bestF (lstG (awayG s ls g a) (endAt s ls n p) (posesG ls))
theorem aim_some {s : Int} {ls : List Lb} {g : Stg} {a : List Int} {n : Int} {p : Pl} {x : Am} (h : aimG s ls g a n p = some x) :
    poseG ls x.1 = true ∧ hasK (awayG s ls g a) x.1 = true ∧ endG1 s ls n x.1 = p ∧ x.2 = dG (awayG s ls g a) x.1 ∧
    ∀ l, poseG ls l = true → endG1 s ls n l = p → hasK (awayG s ls g a) l = true → x.2 ≤ dG (awayG s ls g a) l ∧ (x.2 = dG (awayG s ls g a) l → befG l x.1 = false) := by
  obtain ⟨h1, h2⟩ := bestF_ok _ (lst_pair (exts_pair (spansG ls) [])) x h
  obtain ⟨h3, h4, h5, h6⟩ := lst_mem.1 h1
  refine ⟨mem_poses.1 h3, h4, of_decide_eq_true h5, h6, fun l hl he hk => ?_⟩
  exact h2 (l, dG (awayG s ls g a) l) (lst_mem.2 ⟨mem_poses.2 hl, hk, decide_eq_true he, rfl⟩)
/-- What Aim returns. -/
def aimV : Option Am → PV
  | some x => .tuple [pvA x.1, ii x.2, ii 0]
  | none => .tuple [.sl .n [], ii 0, ii 5]
def aimR (s : Int) (ls : List Lb) (g : Stg) (a : List Int) (n : Int) (p : Pl) : PV :=
  if figB s ls = true ∧ stgG ls g = true ∧ poseG ls a = true ∧ limbG ls n = true then
    if finG s ls g a = true then aimV (aimG s ls g a n p)
    else .tuple [.sl .n [], ii 0, ii 7]
  else .tuple [.sl .n [], ii 0, ii 2]
end Go.Pv
namespace Go.Pv
open Go Go.RowKit Go.Proofs
set_option maxRecDepth 200000
set_option maxHeartbeats 8000000
def encA (x : Am) : PV := .agg [pvA x.1, ii x.2]
def decA : PV → Option Am
  | .agg [.sl .a es, .int .i64 n] => match decL decI es with
    | some l => some (l, n)
    | none => none
  | _ => none
theorem decA_inv (x : PV) (a : Am) (h : decA x = some a) : x = encA a := by
  unfold decA at h
  split at h <;> try (cases h; done)
  split at h <;> cases h
  rename_i h1
  obtain rfl := decL_inv decI_inv h1
  rfl
theorem decA_enc (a : Am) : decA (encA a) = some a := by
  show (match decL decI (a.1.map ii) with | some l => some (l, a.2) | none => none) = some a
  rw [decIs]
theorem decAs (l : List Am) : decL decA (l.map encA) = some l := decL_map (g := encA) decA_enc l
theorem closed_A (x : Am) : (encA x).closed = true := by simp [encA, PV.closed, closedL, closedL_is]
theorem closedL_As (l : List Am) : closedL (l.map encA) = true := closedL_map closed_A l
theorem Aim1_107 (a b : Int) (x y : List Int) : CallOk Tryz.prog 107 [.agg [pvA x, ii a], .agg [pvA y, ii b]] [] (.ret (.bool (decide (a < b)))) [] := by
  refine CallOk.of0 hTT Tryz.func107 rfl rfl ?_
  by_cases h : a < b
  · repeat (first | (with_reducible (first | apply wA | apply wB | apply wC | apply wD | apply wE | apply wF | apply wG | apply wH | apply wI | apply wJ | apply wK | apply wL | apply wM | apply wN | apply wO | apply wP | apply wQ rfl | apply wR | apply wS | apply wT | apply wU)) | ((with_reducible (first | apply wV | apply wW | apply wX | (apply wY [] hTT cf0_ok noM_ok mixed; (focus kernel_rfl)))); (focus (simp only [Tryz.f107, h, go_sem]; with_reducible rfl))) | (with_reducible refine wZ hTT cf0_ok noM_ok ?_) | (with_reducible refine wa ?_; refine And.intro ?_ ?_; (focus kernel_rfl)))
    exact ⟨rfl, rfl, _, rfl, by rw [decide_eq_true h]; rfl⟩
  · repeat (first | (with_reducible (first | apply wA | apply wB | apply wC | apply wD | apply wE | apply wF | apply wG | apply wH | apply wI | apply wJ | apply wK | apply wL | apply wM | apply wN | apply wO | apply wP | apply wQ rfl | apply wR | apply wS | apply wT | apply wU)) | ((with_reducible (first | apply wV | apply wW | apply wX | (apply wY [] hTT cf0_ok noM_ok mixed; (focus kernel_rfl)))); (focus (simp only [Tryz.f107, h, go_sem]; with_reducible rfl))) | (with_reducible refine wZ hTT cf0_ok noM_ok ?_) | (with_reducible refine wa ?_; refine And.intro ?_ ?_; (focus kernel_rfl)))
    exact ⟨rfl, rfl, _, rfl, by rw [decide_eq_false h]; rfl⟩
def c107 : List PV → List Box → Option (PRes × List Box)
  | [v, w], sg => match decA v, decA w with
    | some x, some y => some (.ret (.bool (decide (x.2 < y.2))), sg)
    | _, _ => none
  | _, _ => none
theorem ltB_A (m : Nat) (x : Am) : (encA x).ltB m = true := ltB_of_closed m _ (closed_A x)
theorem c107_ok : ConOk Tryz.prog 107 c107 := ConOk.of0 (ent Tryz.func107 rfl) fun args sg r sg' h => by
  unfold c107 at h
  split at h <;> try (cases h; done)
  split at h <;> cases h
  rename_i h1 h2
  obtain rfl := decA_inv _ _ h1
  obtain rfl := decA_inv _ _ h2
  exact ⟨_, rfl, rfl, by rw [ltBL_cons, ltB_A, ltBL_cons, ltB_A]; rfl, Aim1_107 _ _ _ _⟩
def outA : Option Am → List PV
  | none => [.sl .n [], ii 0]
  | some x => [pvA x.1, ii x.2]
def bestR (l : List Am) : PV := .tuple [.agg (outA (bestF l)), .bool (decide (0 < l.length))]
def cfMf : CallF := cfAdd cf0 107 c107
theorem cfMf_ok : CallFOk Tryz.prog cfMf := cfAdd_ok cf0_ok c107_ok
theorem best_106 (z : Z) (l : List Am) (hz : z = .n → l = []) (hl : l.length ≤ 100000) : CallOk Tryz.prog 106 [.sl z (l.map encA), .fn (.func 107) [] []] [] (.ret (bestR l)) [] := by
  refine CallOk.ofF hTT Tryz.func106 rfl rfl ?_
  unfold bestR
  have lA : ∀ m (l : List Am), ltBL m (l.map encA) = true := fun m l => ltBL_of_closed m _ (closedL_As l)
  have lO : ∀ m (o : Option Am), ltBL m (outA o) = true := fun m o => ltBL_of_closed m _ (by cases o with
    | none => rfl
    | some x => simp [outA, closedL, PV.closed, closedL_is])
  have hcO : ∀ (o : Option Am), closedL (outA o) = true := fun o => by cases o with
    | none => rfl
    | some x => simp [outA, closedL, PV.closed, closedL_is]
  repeat (first | (with_reducible (first | apply wA | ((fail_if_success (refine RunQ.seq (x := .region 3 _ _) ?_)); (apply wB)) | apply wC | apply wD | apply wE | apply wF | apply wG | apply wH | apply wI | apply wJ | apply wK | apply wL | apply wM | apply wN | apply wO | apply wP | apply wQ rfl | apply wR | apply wS | apply wT | apply wU)) | ((with_reducible (first | apply wV | apply wW | apply wX | (apply wY [] hTT cfMf_ok noM_ok mixed; (focus kernel_rfl)))); (focus (simp only [Tryz.f106, go_sem]; with_reducible rfl))) | ((fail_if_success (with_reducible show RunQ _ (.region 3 _ _) _ _)); (with_reducible refine wZ hTT cfMf_ok noM_ok ?_)) | (with_reducible refine wa ?_; refine And.intro ?_ ?_; (focus kernel_rfl)))
  refine RunQ.keep [11, 10, 9, 6, 5, 4, 1, 0] (by simp only [go_sem]; rfl) ?_
  refine RunQ.loop (fun i s' => s' = ⟨[(11, ii i), (10, ii l.length), (9, .sl z (l.map encA)), (6, .bp 1 0), (5, .bool false), (4, .bp 0 0), (0, .sl z (l.map encA)), (1, .fn (.func 107) [] [])], 30, [.var [.sl .n [], ii 0] false, .var (outA (bestF (l.take i))) false]⟩) l.length (by simp only [List.take_zero, bestF_nil, outA, List.length_map]; rfl) ?_
  rintro i _ hi rfl
  by_cases hlt : i < l.length
  · obtain ⟨x, hx⟩ : ∃ x, l[i]? = some x := ⟨_, List.getElem?_eq_getElem hlt⟩
    have hx' : (l.map encA)[i]? = some (.agg [pvA x.1, ii x.2]) := by rw [List.getElem?_map, hx]; rfl
    have hlt' : (i : Int) < l.length := by omega
    have hz' : z ≠ .n := fun e => by rw [hz e] at hlt; simp at hlt
    have e4 : IntKind.i64.wrap ((i : Int) + 1) = ((i + 1 : Nat) : Int) := wrap_id (by omega) (by omega)
    have htk := bestF_take hx
    have hdx : decA (.agg [pvA x.1, ii x.2]) = some x := decA_enc x
    by_cases hi0 : i = 0
    · have e0 : ((i : Int) == 0) = true := by rw [hi0]; rfl
      have ho : outA (bestF (l.take i)) = [.sl .n [], ii 0] := by rw [hi0]; rfl
      have hb : outA (some (betG (bestF (l.take i)) x)) = [pvA x.1, ii x.2] := by rw [hi0]; rfl
      rw [ho]
      repeat (first | (with_reducible (first | apply wA | apply wB | apply wC | apply wD | apply wE | apply wF | apply wG | apply wH | apply wI | apply wJ | apply wK | apply wL | apply wM | apply wN | apply wO | apply wP | apply wQ rfl | apply wR | apply wS | apply wT | apply wU)) | ((with_reducible (first | apply wV | apply wW | apply wX | (apply wY [] hTT cfMf_ok noM_ok mixed; (focus kernel_rfl)))); (focus (simp only [Tryz.f106, hlt', hx', hz', e0, e4, List.length_map, go_sem]; with_reducible rfl))) | (with_reducible refine wZ hTT cfMf_ok noM_ok ?_) | (with_reducible refine wa ?_; refine And.intro ?_ ?_; (focus kernel_rfl)))
      refine roundQ.t 2 [11, 10, 9, 6, 5, 4, 1, 0] hlt (by simp only [lA, lO, ltB_is, ltB_isl, go_sem]) (by rw [htk, hb]; simp only [go_sem])
    · have e0 : ((i : Int) == 0) = false := by simp; omega
      obtain ⟨y, hy⟩ : ∃ y, bestF (l.take i) = some y := bestF_ne (fun e => by
        have := congrArg List.length e
        rw [List.length_take, List.length_nil] at this
        omega)
      have hdy : decA (.agg [pvA y.1, ii y.2]) = some y := decA_enc y
      rw [hy]
      have ho : outA (some y) = [pvA y.1, ii y.2] := rfl
      by_cases hc : x.2 < y.2
      · have hb : outA (some (betG (some y) x)) = [pvA x.1, ii x.2] := by unfold betG; dsimp only; rw [if_pos hc]; rfl
        rw [ho]
        repeat (first | (with_reducible (first | apply wA | apply wB | apply wC | apply wD | apply wE | apply wF | apply wG | apply wH | apply wI | apply wJ | apply wK | apply wL | apply wM | apply wN | apply wO | apply wP | apply wQ rfl | apply wR | apply wS | apply wT | apply wU)) | ((with_reducible (first | apply wV | apply wW | apply wX | (apply wY [] hTT cfMf_ok noM_ok mixed; (focus kernel_rfl)))); (focus (simp only [Tryz.f106, cfMf, c107, hlt', hx', hz', e0, e4, hdx, hdy, hc, List.length_map, go_sem]; with_reducible rfl))) | (with_reducible refine wZ hTT cfMf_ok noM_ok ?_) | (with_reducible refine wa ?_; refine And.intro ?_ ?_; (focus kernel_rfl)))
        refine roundQ.t 2 [11, 10, 9, 6, 5, 4, 1, 0] hlt (by simp only [lA, lO, ltB_is, ltB_isl, go_sem]) (by rw [htk, hy, hb]; simp only [go_sem])
      · have hb : outA (some (betG (some y) x)) = [pvA y.1, ii y.2] := by unfold betG; dsimp only; rw [if_neg hc]; rfl
        rw [ho]
        repeat (first | (with_reducible (first | apply wA | apply wB | apply wC | apply wD | apply wE | apply wF | apply wG | apply wH | apply wI | apply wJ | apply wK | apply wL | apply wM | apply wN | apply wO | apply wP | apply wQ rfl | apply wR | apply wS | apply wT | apply wU)) | ((with_reducible (first | apply wV | apply wW | apply wX | (apply wY [] hTT cfMf_ok noM_ok mixed; (focus kernel_rfl)))); (focus (simp only [Tryz.f106, cfMf, c107, hlt', hx', hz', e0, e4, hdx, hdy, hc, List.length_map, go_sem]; with_reducible rfl))) | (with_reducible refine wZ hTT cfMf_ok noM_ok ?_) | (with_reducible refine wa ?_; refine And.intro ?_ ?_; (focus kernel_rfl)))
        refine roundQ.t 2 [11, 10, 9, 6, 5, 4, 1, 0] hlt (by simp only [lA, lO, ltB_is, ltB_isl, go_sem]) (by rw [htk, hy, hb]; simp only [go_sem])
  · have hlt' : ¬ (i : Int) < l.length := by omega
    obtain rfl : i = l.length := by omega
    rw [List.take_length]
    obtain ⟨o1, o2, ho⟩ : ∃ o1 o2, outA (bestF l) = [o1, o2] := by
      cases bestF l with
      | none => exact ⟨_, _, rfl⟩
      | some x => exact ⟨_, _, rfl⟩
    have hc2 := hcO (bestF l)
    rw [ho] at hc2 ⊢
    by_cases h0 : 0 < l.length
    · have h0' : (0 : Int) < l.length := by omega
      rw [decide_eq_true h0]
      repeat (first | (with_reducible (first | apply wA | apply wB | apply wC | apply wD | apply wE | apply wF | apply wG | apply wH | apply wI | apply wJ | apply wK | apply wL | apply wM | apply wN | apply wO | apply wP | apply wQ rfl | apply wR | apply wS | apply wT | apply wU)) | ((with_reducible (first | apply wV | apply wW | apply wX | (apply wY [] hTT cfMf_ok noM_ok mixed; (focus kernel_rfl)))); (focus (simp only [Tryz.f106, hlt', h0', gt_iff_lt, List.length_map, go_sem]; with_reducible rfl))) | (with_reducible refine wZ hTT cfMf_ok noM_ok ?_) | (with_reducible refine wa ?_; refine And.intro ?_ ?_; (focus kernel_rfl)))
      exact ⟨rfl, rfl, _, rfl, leave_closed (show closedL [.agg [o1, o2], .bool true] = true from by show (closedL [o1, o2] && _) = true; rw [hc2]; rfl)⟩
    · have h0' : ¬ (0 : Int) < l.length := by omega
      rw [decide_eq_false h0]
      repeat (first | (with_reducible (first | apply wA | apply wB | apply wC | apply wD | apply wE | apply wF | apply wG | apply wH | apply wI | apply wJ | apply wK | apply wL | apply wM | apply wN | apply wO | apply wP | apply wQ rfl | apply wR | apply wS | apply wT | apply wU)) | ((with_reducible (first | apply wV | apply wW | apply wX | (apply wY [] hTT cfMf_ok noM_ok mixed; (focus kernel_rfl)))); (focus (simp only [Tryz.f106, hlt', h0', gt_iff_lt, List.length_map, go_sem]; with_reducible rfl))) | (with_reducible refine wZ hTT cfMf_ok noM_ok ?_) | (with_reducible refine wa ?_; refine And.intro ?_ ?_; (focus kernel_rfl)))
      exact ⟨rfl, rfl, _, rfl, leave_closed (show closedL [.agg [o1, o2], .bool false] = true from by show (closedL [o1, o2] && _) = true; rw [hc2]; rfl)⟩
def c106 : List PV → List Box → Option (PRes × List Box)
  | [.sl z es, .fn (.func 107) [] []], sg => match decL decA es with
    | some l => if (z = .n → l = []) ∧ l.length ≤ 100000 then some (.ret (bestR l), sg) else none
    | none => none
  | _, _ => none
theorem c106_ok : ConOk Tryz.prog 106 c106 := ConOk.of0 (ent Tryz.func106 rfl) fun args sg r sg' h => by
  unfold c106 at h
  split at h <;> try (cases h; done)
  split at h <;> try (cases h; done)
  rename_i h1
  split at h <;> cases h
  rename_i hc
  obtain rfl := decL_inv decA_inv h1
  exact ⟨_, rfl, rfl, by rw [ltBL_cons, ltB_sl, ltBL_of_closed 0 _ (closedL_As _)]; rfl, best_106 _ _ hc.1 hc.2⟩
end Go.Pv
namespace Go.Pv
open Go Go.RowKit Go.Proofs
set_option maxRecDepth 200000
set_option maxHeartbeats 8000000
theorem Ghost.freezeZ (t id : Nat) {tm tm' : List (Nat × PV)} {n m k : Nat} {e : TypeId} {sg sg' : List Box} {z : Bool} {es : List PV} (h : getT tm t = some (.ms id m)) (hb : sg[id]? = some (.row z e k es false))
    (hm : es.length = m) (hc : closedL es = true) (e1 : sg.set id (.row z e k es true) = sg') (e2 : putT tm t (.sl (if z = true then .n else .a) es) = tm') : Ghost ⟨tm, n, sg⟩ ⟨tm', n, sg'⟩ := by
  have hrows : rowsOf sg [id] = sg' := by
    unfold rowsOf
    simp only [hb, rowsOf]
    rw [frzL_closed (n := 4) (flat es) sg (closedL_flat es hc)]
    simp only [regroup_self]
    exact e1
  have hid : sg'[id]? = some (.row z e k es true) := by
    rw [← e1]
    exact List.getElem?_set_self (List.getElem?_eq_some_iff.1 hb).1
  have hv : viewV sg' (.ms id m) = some (.sl (if z = true then .n else .a) es) := by
    show view1 sg' (.ms id m) = _
    unfold view1
    simp [hid, hm]
  have g1 : Ghost ⟨tm, n, sg⟩ ⟨tm, n, sg'⟩ := by
    have := Ghost.rows [id] sg ⟨tm, n, sg⟩ rfl
    rw [hrows] at this
    exact this
  have g2 : Ghost ⟨tm, n, sg'⟩ ⟨tm', n, sg'⟩ := by
    have := Ghost.view (n := n) (sg := sg') h hv
    rw [e2] at this
    exact this
  exact g1.trans g2
theorem RegG.freezeZ {P : Program} {T : TypeId → TyI} {me : Meth} {cf : CallF} {ops : Array Oper} {Q : Out → St → Prop} {i : Nat} {os : List Oper} (t id : Nat) {tm tm' : List (Nat × PV)} {n m k : Nat} {e : TypeId} {sg sg' : List Box} {z : Bool} {es : List PV} (h : getT tm t = some (.ms id m)) (hb : sg[id]? = some (.row z e k es false))
    (hm : es.length = m) (hc : closedL es = true) (e1 : sg.set id (.row z e k es true) = sg') (e2 : putT tm t (.sl (if z = true then .n else .a) es) = tm') (hq : RegG P me cf T ops i os ⟨tm', n, sg'⟩ Q) : RegG P me cf T ops i os ⟨tm, n, sg⟩ Q :=
  RegG.ghost (Ghost.freezeZ t id h hb hm hc e1 e2) hq
def cfMg : CallF := cfAdd (cfAdd (cfAdd (cfAdd (cfAdd (cfAdd (cfAdd (cfAdd (cfAdd (cfAdd cf0 85 c85) 96 c96) 86 c86) 88 c88) 97 c97s) 98 c98) 90 c90) 99 c99s) 87 c87) 106 c106
theorem cfMg_ok : CallFOk Tryz.prog cfMg := cfAdd_ok (cfAdd_ok (cfAdd_ok (cfAdd_ok (cfAdd_ok (cfAdd_ok (cfAdd_ok (cfAdd_ok (cfAdd_ok (cfAdd_ok cf0_ok c85_ok) c96_ok) c86_ok) c88_ok) c97s_ok) c98_ok) c90_ok) c99s_ok) c87_ok) c106_ok
/-- The boxes of the walk. -/
def bxG (s : Int) (z zh zr : Z) (ls : List Lb) (g : Stg) (n : Int) (p : Pl) (Q : Dst) (L : List Am) : List Box := [.var [ii s, .sl z (ls.map encLb)] false, .var [ii g.e.a, ii g.e.b, ii g.e.c, ii g.e.d, .sl zh (g.hs.map encFld), .sl zr (g.rs.map ii)] false, .var [ii n] false, .var [ii p.1, ii p.2] false,
  .var (stgC s z zh zr ls g) false, .var [.im (mpK Q) (mpV Q)] false, .var [.ms 7 L.length] false, .row (decide (L.length = 0)) 158 2 (L.map encA) false]
theorem Aim_47 (s : Int) (z zh zr za : Z) (ls : List Lb) (g : Stg) (a : List Int) (n : Int) (p : Pl) (hzo : zOk z (ls.map encLb) = true) (hh : zOk zh (g.hs.map encFld) = true) (hr : zOk zr (g.rs.map ii) = true) (ha : zOk za (a.map ii) = true) :
    CallOk Tryz.prog 47 [.agg [ii s, .sl z (ls.map encLb)], encStg zh zr g, .sl za (a.map ii), ii n, .agg [ii p.1, ii p.2]] [] (.ret (aimR s ls g a n p)) [] := by
  refine CallOk.ofF hTT Tryz.func47 rfl rfl ?_
  have hd := decFig_enc s z ls hzo
  have hd2 := decStg_enc hh hr
  have hd3 := decIs1_enc ha
  unfold aimR
  unfold encStg at hd2 ⊢
  cases a0 : figB s ls
  · repeat (first | (with_reducible (first | apply wA | apply wB | apply wC | apply wD | apply wE | apply wF | apply wG | apply wH | apply wI | apply wJ | apply wK | apply wL | apply wM | apply wN | apply wO | apply wP | apply wQ rfl | apply wR | apply wS | apply wT | apply wU)) | ((with_reducible (first | apply wV | apply wW | apply wX | (apply wY [] hTT cfMg_ok noM_ok mixed; (focus kernel_rfl)))); (focus (simp only [Tryz.f47, cfMg, c85, hd, a0, notYield, go_sem]; with_reducible rfl))) | (with_reducible refine wZ hTT cfMg_ok noM_ok ?_) | (with_reducible refine wa ?_; refine And.intro ?_ ?_; (focus kernel_rfl)))
    exact ⟨rfl, rfl, _, rfl, leave_closed rfl⟩
  have hl := fig_len a0
  have hs : ls.length ≤ maxLen := by unfold maxLen; omega
  have hs2 : ls.length ≤ 1000 := by omega
  have hne : ls ≠ [] := fun e => by rw [e] at hl; simp at hl
  cases a1 : stgG ls g
  · repeat (first | (with_reducible (first | apply wA | apply wB | apply wC | apply wD | apply wE | apply wF | apply wG | apply wH | apply wI | apply wJ | apply wK | apply wL | apply wM | apply wN | apply wO | apply wP | apply wQ rfl | apply wR | apply wS | apply wT | apply wU)) | ((with_reducible (first | apply wV | apply wW | apply wX | (apply wY [] hTT cfMg_ok noM_ok mixed; (focus kernel_rfl)))); (focus (simp only [Tryz.f47, cfMg, c85, c96, hd, hd2, a0, a1, hs, notYield, go_sem]; with_reducible rfl))) | (with_reducible refine wZ hTT cfMg_ok noM_ok ?_) | (with_reducible refine wa ?_; refine And.intro ?_ ?_; (focus kernel_rfl)))
    exact ⟨rfl, rfl, _, rfl, leave_closed rfl⟩
  cases a2 : poseG ls a
  · repeat (first | (with_reducible (first | apply wA | apply wB | apply wC | apply wD | apply wE | apply wF | apply wG | apply wH | apply wI | apply wJ | apply wK | apply wL | apply wM | apply wN | apply wO | apply wP | apply wQ rfl | apply wR | apply wS | apply wT | apply wU)) | ((with_reducible (first | apply wV | apply wW | apply wX | (apply wY [] hTT cfMg_ok noM_ok mixed; (focus kernel_rfl)))); (focus (simp only [Tryz.f47, cfMg, c85, c96, c86, hd, hd2, hd3, a0, a1, a2, hs, hs2, notYield, go_sem]; with_reducible rfl))) | (with_reducible refine wZ hTT cfMg_ok noM_ok ?_) | (with_reducible refine wa ?_; refine And.intro ?_ ?_; (focus kernel_rfl)))
    exact ⟨rfl, rfl, _, rfl, leave_closed rfl⟩
  cases a3 : limbG ls n
  · repeat (first | (with_reducible (first | apply wA | apply wB | apply wC | apply wD | apply wE | apply wF | apply wG | apply wH | apply wI | apply wJ | apply wK | apply wL | apply wM | apply wN | apply wO | apply wP | apply wQ rfl | apply wR | apply wS | apply wT | apply wU)) | ((with_reducible (first | apply wV | apply wW | apply wX | (apply wY [] hTT cfMg_ok noM_ok mixed; (focus kernel_rfl)))); (focus (simp only [Tryz.f47, cfMg, c85, c96, c86, c88, hd, hd2, hd3, a0, a1, a2, a3, hs, hs2, notYield, go_sem]; with_reducible rfl))) | (with_reducible refine wZ hTT cfMg_ok noM_ok ?_) | (with_reducible refine wa ?_; refine And.intro ?_ ?_; (focus kernel_rfl)))
    exact ⟨rfl, rfl, _, rfl, leave_closed rfl⟩
  rw [if_pos ⟨rfl, rfl, rfl, rfl⟩]
  have H : StOk s z zh zr ls g := ⟨hzo, hh, hr, a0, a1⟩
  have hsb : stB s z zh zr ls g = true := stB_iff.2 H
  have hdk := decSt_enc s z zh zr ls g
  unfold stgC at hdk
  repeat (first | (with_reducible (first | apply wA | ((fail_if_success (refine RunQ.seq (x := .region 4 _ _) ?_)); (apply wB)) | apply wC | apply wD | apply wE | apply wF | apply wG | apply wH | apply wI | apply wJ | apply wK | apply wL | apply wM | apply wN | apply wO | apply wP | apply wQ rfl | apply wR | apply wS | apply wT | apply wU)) | ((with_reducible (first | apply wV | apply wW | apply wX | (apply wY [] hTT cfMg_ok noM_ok mixed; (focus kernel_rfl)))); (focus (simp only [Tryz.f47, cfMg, c85, c96, c86, c88, hd, hd2, hd3, a0, a1, a2, a3, hs, hs2, notYield, go_sem]; with_reducible rfl))) | ((fail_if_success (with_reducible show RunQ _ (.region 4 _ _) _ _)); (with_reducible refine wZ hTT cfMg_ok noM_ok ?_)) | (with_reducible refine wa ?_; refine And.intro ?_ ?_; (focus kernel_rfl)))
  refine RunQ.keep [13, 9, 8, 5, 2] (by simp only [go_sem]; rfl) ?_
  cases a4 : finG s ls g a
  · repeat (first | (with_reducible (first | apply wA | apply wB | apply wC | apply wD | apply wE | apply wF | apply wG | apply wH | apply wI | apply wJ | apply wK | apply wL | apply wM | apply wN | apply wO | apply wP | apply wQ rfl | apply wR | apply wS | apply wT | apply wU)) | ((with_reducible (first | apply wV | apply wW | apply wX | (apply wY [] hTT cfMg_ok noM_ok mixed; (focus kernel_rfl)))); (focus (simp only [Tryz.f47, cfMg, c97s, hdk, hd3, hsb, a2, a4, and_self, if_true, notYield, go_sem]; with_reducible rfl))) | (with_reducible refine wZ hTT cfMg_ok noM_ok ?_) | (with_reducible refine wa ?_; refine And.intro ?_ ?_; (focus kernel_rfl)))
    exact ⟨rfl, rfl, _, rfl, leave_closed rfl⟩
  rw [if_pos rfl]
  have hli := limb_in a3
  have hQn : ∀ x ∈ awayG s ls g a, x.1.length = ls.length := fun x hx => (pose_at (away_pose a2 60000 x hx)).1
  have hQd : ((awayG s ls g a).map Prod.fst).Nodup := away_nodup 60000
  have hlk := fun (sg : List Box) (k : List Int) (hk : k.length = ls.length) => look_im (Q := awayG s ls g a) sg hk (by omega) hQn hQd
  have hpl := poses_len a0
  have hit := lists_166 .a (spansG ls) (by simp) (spans_in a0) (by simp [spansG]; omega)
  have hspc : (spP .a (spansG ls)).closed = true := by
    show closedL [.sl .a ((spansG ls).map spE)] = true
    simp [closedL, PV.closed, closedL_sp]
  repeat (first | (with_reducible (first | apply wA | ((fail_if_success (refine RunQ.seq (x := .region 7 _ _) ?_)); (apply wB)) | apply wC | apply wD | apply wE | apply wF | apply wG | apply wH | apply wI | apply wJ | apply wK | apply wL | apply wM | apply wN | apply wO | apply wP | apply wQ rfl | apply wR | apply wS | apply wT | apply wU)) | ((with_reducible (first | apply wV | apply wW | apply wX | (apply wY [] hTT cfMg_ok noM_ok mixed; (focus kernel_rfl)))); (focus (simp only [Tryz.f47, cfMg, c97s, c98, hdk, hd3, hsb, a2, a4, and_self, if_true, notYield, go_sem]; with_reducible rfl))) | ((fail_if_success (with_reducible show RunQ _ (.region 7 _ _) _ _)); (with_reducible refine wZ hTT cfMg_ok noM_ok ?_)) | (with_reducible refine wa ?_; refine And.intro ?_ ?_; (focus kernel_rfl)))
  refine RunQ.keep [14, 9, 8, 5] (by simp only [go_sem]; rfl) ?_
  repeat (first | (with_reducible (first | apply wA | apply wB | apply wC | apply wD | apply wE | apply wF | apply wG | apply wH | apply wI | apply wJ | apply wK | apply wL | apply wM | apply wN | apply wO | apply wP | apply wQ rfl | apply wR | apply wS | apply wT | apply wU)) | ((with_reducible (first | apply wV | apply wW | apply wX | (apply wY [] hTT cfMg_ok noM_ok mixed; (focus kernel_rfl)))); (focus (simp only [Tryz.f47, cfMg, c90, hd, hne, hs2, notYield, go_sem]; with_reducible rfl))) | (with_reducible refine wZ hTT cfMg_ok noM_ok ?_) | (with_reducible refine wa ?_; refine And.intro ?_ ?_; (focus kernel_rfl)))
  refine RunQ.keep [53, 15, 14, 9, 8, 5] (by simp only [go_sem]; rfl) ?_
  refine RunQ.nilBox 6 0 158 2 rfl rfl rfl ?_
  unfold aimG
  have hbd := fun l => dG_bd (s := s) (ls := ls) (g := g) (f := a) l
  generalize awayG s ls g a = Q at *
  have hcf : closedL [ii s, .sl z (ls.map encLb)] = true := by simp [closedL, PV.closed, closedL_lbs]
  have hcs : closedL [ii g.e.a, ii g.e.b, ii g.e.c, ii g.e.d, .sl zh (g.hs.map encFld), .sl zr (g.rs.map ii)] = true := by simp [closedL, PV.closed, closedL_flds, closedL_is]
  have hKc := closed_stgC s z zh zr ls g
  have hbx : ∀ (L : List Am), ltBB 9 (bxG s z zh zr ls g n p Q L) = true := by
    intro L
    have l1 := ltBL_of_closed 9 _ hcf
    have l2 := ltBL_of_closed 9 _ hcs
    have l3 := ltBL_of_closed 9 _ hKc
    have l4 : ltBL 9 [PV.im (mpK Q) (mpV Q)] = true := ltBL_of_closed 9 _ (by simp [closedL, PV.closed, mpKc, mpVc])
    have l6 := ltBL_of_closed 9 _ (closedL_As L)
    unfold bxG
    simp only [ltBB, Box.ltB, l1, l2, l3, l4, l6, Bool.and_true]
    rfl
  show RunQ _ _ ⟨_, _, bxG s z zh zr ls g n p Q (lstG Q (endAt s ls n p) ((posesG ls).take 0))⟩ _
  refine RunQ.range (L := (posesG ls).map fun l => [pvL l]) (first := []) (cap := [spP .a (spansG ls)]) rfl (ent Tryz.func166 rfl) hit ?_ ?_ ?_
    (fun i st => st = bxG s z zh zr ls g n p Q (lstG Q (endAt s ls n p) ((posesG ls).take i))) rfl ?_ ?_ ?_
  · intro e he
    obtain ⟨l, _, rfl⟩ := List.mem_map.1 he
    rfl
  · intro t ht
    have : t = 54 := by simpa using ht
    subst this
    show (54 : Nat) < 90
    decide
  · intro t v hv
    have hsl : (bxG s z zh zr ls g n p Q (lstG Q (endAt s ls n p) ((posesG ls).take 0))).length = 8 := rfl
    rw [hsl]
    obtain ⟨q, hq, rfl⟩ := getT_mem hv
    simp only [List.mem_cons, List.not_mem_nil, or_false] at hq
    rcases hq with rfl | rfl | rfl | rfl | rfl | rfl
    · refine .fn (fun c hc => by cases hc) fun c hc => ?_
      simp only [List.mem_cons, List.not_mem_nil, or_false] at hc
      subst hc
      exact (lt_of_closed _ hspc).mono (by omega)
    all_goals exact .bp (by simp)
  · rintro k st rfl
    exact ⟨rfl, fun x hx => (lt_ltBB (hbx _) x hx).mono (by simp [bxG]), sameLoops_of _ _ rfl⟩
  · rintro i e st he rfl
    obtain ⟨l, hl2, rfl⟩ : ∃ l, (posesG ls)[i]? = some l ∧ e = [pvL l] := by
      rw [List.getElem?_map, Option.map_eq_some_iff] at he
      obtain ⟨l, a, rfl⟩ := he
      exact ⟨l, a, rfl⟩
    have hpp : poseG ls l = true := mem_poses.1 (List.mem_of_getElem? hl2)
    have hll := (pose_at hpp).1
    have hl5 : l.length ≤ 5 := by omega
    have hpv : pvL l = pvA l := by
      unfold pvL
      cases l with
      | nil => simp at hll; omega
      | cons a r => rfl
    have hdl : decL decI (l.map ii) = some l := decIs l
    have hdl1 : decIs1 (.sl .a (l.map ii)) = some l := decIs1_enc (by cases l <;> rfl)
    have hlkl := fun sg => hlk sg l hll
    have g0 := ends_get (s := s) a0 hpp hli
    have g0' : ((ends s ls l).map encPl)[n.toNat]? = some (.agg [ii (endG1 s ls n l).1, ii (endG1 s ls n l).2]) := by rw [List.getElem?_map, g0]; rfl
    have hel : (ends s ls l).length = ls.length := ends_ln a0 hpp
    have h0l := hli.1
    have h1l := hli.2
    have hst := lst_snoc (Q := Q) (P := endAt s ls n p) hl2
    have hUl : (lstG Q (endAt s ls n p) ((posesG ls).take i)).length ≤ 59049 := by
      unfold lstG
      rw [List.length_map]
      refine Nat.le_trans (List.length_filter_le _ _) ?_
      rw [List.length_take]; omega
    rw [hpv]
    refine .next _ rfl fun own ho => ?_
    rw [hst]
    generalize lstG Q (endAt s ls n p) ((posesG ls).take i) = U at hUl ⊢
    have hea : endAt s ls n p l = decide (endG1 s ls n l = p) := rfl
    rw [hea]
    generalize endG1 s ls n l = q at g0' ⊢
    have r2 : U.length + 1 ≤ maxLen := by unfold maxLen; omega
    have r3 : (U.length + 1) * 32 ≤ 140737488355328 := by omega
    unfold YRun
    generalize hX : Box.loop _ = X1
    repeat (first | (with_reducible (first | apply wA | apply wB | apply wC | apply wD | apply wE | apply wF | apply wG | apply wH | apply wI | apply wJ | apply wK | apply wL | apply wM | apply wN | apply wO | apply wP | apply wQ rfl | apply wR | apply wS | apply wT | apply wU)) | ((with_reducible (first | apply wV | apply wW | apply wX | (apply wY [] hTT cfMg_ok noM_ok mixed; (focus kernel_rfl)))); (focus (simp only [Tryz.f47, putPs, List.toList_toArray, go_sem]; with_reducible rfl))) | (with_reducible refine wZ hTT cfMg_ok noM_ok ?_) | (with_reducible refine wa ?_; refine And.intro ?_ ?_; (focus kernel_rfl)))
    refine ⟨rfl, own, by rw [← hX], ?_⟩
    dsimp only
    generalize hX2 : Box.loop _ = X2
    obtain ⟨SS, hSS⟩ : ∃ SS : Box → Box → List Box, ∀ v r, SS v r = [.var [ii s, .sl z (ls.map encLb)] false, .var [ii g.e.a, ii g.e.b, ii g.e.c, ii g.e.d, .sl zh (g.hs.map encFld), .sl zr (g.rs.map ii)] false, .var [ii n] false, .var [ii p.1, ii p.2] false,
      .var (stgC s z zh zr ls g) false, .var [.im (mpK Q) (mpV Q)] false, v, r] ++ (X2 :: own) := ⟨_, fun _ _ => rfl⟩
    show RunQ _ _ ⟨_, _, [.var [ii s, .sl z (ls.map encLb)] false, .var [ii g.e.a, ii g.e.b, ii g.e.c, ii g.e.d, .sl zh (g.hs.map encFld), .sl zr (g.rs.map ii)] false, .var [ii n] false, .var [ii p.1, ii p.2] false,
      .var (stgC s z zh zr ls g) false, .var [.im (mpK Q) (mpV Q)] false, .var [.ms 7 U.length] false, .row (decide (U.length = 0)) 158 2 (U.map encA) false] ++ (X2 :: own)⟩ _
    rw [← hSS]
    generalize hN : own.length + 9 = N
    have ssl : ∀ v r, (SS v r).length = N := fun v r => by rw [hSS, ← hN]; simp
    have sapp : ∀ v r B, SS v r ++ B = [.var [ii s, .sl z (ls.map encLb)] false, .var [ii g.e.a, ii g.e.b, ii g.e.c, ii g.e.d, .sl zh (g.hs.map encFld), .sl zr (g.rs.map ii)] false, .var [ii n] false, .var [ii p.1, ii p.2] false,
      .var (stgC s z zh zr ls g) false, .var [.im (mpK Q) (mpV Q)] false, v, r] ++ (X2 :: (own ++ B)) := fun v r B => by rw [hSS]; simp
    have ss0 : ∀ v r B, (SS v r ++ B)[0]? = some (.var [ii s, .sl z (ls.map encLb)] false) := fun v r B => by rw [sapp]; rfl
    have ss2 : ∀ v r B, (SS v r ++ B)[2]? = some (.var [ii n] false) := fun v r B => by rw [sapp]; rfl
    have ss3 : ∀ v r B, (SS v r ++ B)[3]? = some (.var [ii p.1, ii p.2] false) := fun v r B => by rw [sapp]; rfl
    have ss5 : ∀ v r B, (SS v r ++ B)[5]? = some (.var [.im (mpK Q) (mpV Q)] false) := fun v r B => by rw [sapp]; rfl
    have ss6 : ∀ v r B, (SS v r ++ B)[6]? = some v := fun v r B => by rw [sapp]; rfl
    have ss7 : ∀ v r B, (SS v r ++ B)[7]? = some r := fun v r B => by rw [sapp]; rfl
    have st6 : ∀ v r B (q : Box), (SS v r ++ B).set 6 q = SS q r ++ B := fun v r B q => by rw [sapp, sapp]; rfl
    have st7 : ∀ v r B (q : Box), (SS v r ++ B).set 7 q = SS v q ++ B := fun v r B q => by rw [sapp, sapp]; rfl
    have sse0 : ∀ v r B, (SS v r ++ B)[N]? = B[0]? := fun v r B => by rw [← ssl v r]; exact app_get0 _ _
    have sse : ∀ v r B n, (SS v r ++ B)[N + n]? = B[n]? := fun v r B n => by rw [← ssl v r]; exact app_get _ _ _
    have sts0 : ∀ v r B (q : Box), (SS v r ++ B).set N q = SS v r ++ B.set 0 q := fun v r B q => by rw [← ssl v r]; exact app_set0 _ _ _
    have sts : ∀ v r B n (q : Box), (SS v r ++ B).set (N + n) q = SS v r ++ B.set n q := fun v r B n q => by rw [← ssl v r]; exact app_set _ _ _ _
    have hnd : [5, N].Nodup := by simp; omega
    have hnd2 : [0, 2, 3, N + 1].Nodup := by simp; omega
    repeat (first | (with_reducible (first | apply wA | ((fail_if_success (refine RunQ.seq (x := .region 10 _ _) ?_)); (apply wB)) | apply wC | apply wD | apply wE | apply wF | apply wG | apply wH | apply wI | apply wJ | apply wK | apply wL | apply wM | apply wN | apply wO | apply wP | apply wQ rfl | apply wR | apply wS | apply wT | apply wU)) | ((with_reducible (first | apply wV | apply wW | apply wX | (apply wY [] hTT cfMg_ok noM_ok mixed; (focus kernel_rfl)))); (focus (simp only [Tryz.f47, go_sem]; with_reducible rfl))) | ((fail_if_success (with_reducible show RunQ _ (.region 10 _ _) _ _)); (with_reducible refine wZ hTT cfMg_ok noM_ok ?_)) | (with_reducible refine wa ?_; refine And.intro ?_ ?_; (focus kernel_rfl)))
    refine RunQ.seq ?_
    refine RunQ.drawn [] hTT cfMg_ok noM_ok mixed (by kernel_rfl) (by simp only [go_sem]; rfl) ?_
    iterate 9 (apply DrawQ.step; (focus (simp only [Tryz.f47, cfMg, c99s, closedL_is, hdl, hl5, hlkl, ss5, sse0, sse, sts0, sts, ssl, freeB, go_sem]; with_reducible rfl)))
    refine DrawQ.nil ⟨boxOk_ren [5, N] [(false, none, [0]), (false, none, []), (false, none, [1]), (false, none, []), (false, none, []), (false, none, []), (false, none, []), (false, none, []), (false, none, [])] hnd (by kernel_rfl) rfl (by kernel_rfl), ?_⟩
    refine thenQ.n ?_
    refine RunQ.keep [18, 17, 16, 15, 9, 8, 5] (by simp only [go_sem]; rfl) ?_
    cases hk : hasK Q l
    · rw [Bool.false_and, if_neg (by simp)]
      refine RunQ.seq ?_
      refine RunQ.drawn [] hTT cfMg_ok noM_ok mixed (by kernel_rfl) (by simp only [go_sem]; rfl) ?_
      iterate 11 (apply DrawQ.step; (focus (simp only [Tryz.f47, sse0, sse, sts0, sts, ssl, freeB, go_sem]; with_reducible rfl)))
      refine DrawQ.nil ⟨boxOk_ren [0, 2, 3, N + 1] [(false, none, []), (false, none, []), (false, none, [0]), (false, none, []), (false, none, [3]), (false, none, [1]), (false, none, []), (false, none, []), (false, none, [2]), (false, none, []), (false, none, [])] hnd2 (by kernel_rfl) rfl (by kernel_rfl), ?_⟩
      repeat (first | (with_reducible (first | apply wA | apply wB | apply wC | apply wD | apply wE | apply wF | apply wG | apply wH | apply wI | apply wJ | apply wK | apply wL | apply wM | apply wN | apply wO | apply wP | apply wQ rfl | apply wR | apply wS | apply wT | apply wU)) | ((with_reducible (first | apply wV | apply wW | apply wX | (apply wY [] hTT cfMg_ok noM_ok mixed; (focus kernel_rfl)))); (focus (simp only [Tryz.f47, go_sem]; with_reducible rfl))) | (with_reducible refine wZ hTT cfMg_ok noM_ok ?_) | (with_reducible refine wa ?_; refine And.intro ?_ ?_; (focus kernel_rfl)))
      exact ⟨rfl, [.dead, .dead], by rw [sapp]; simp [bxG]⟩
    · rw [Bool.true_and]
      by_cases hqp : q = p
      · have hq1 : (q.1 == p.1 && q.2 == p.2) = true := by subst hqp; simp
        rw [if_pos (by simpa using hqp)]
        refine RunQ.seq ?_
        refine RunQ.drawn [] hTT cfMg_ok noM_ok mixed (by kernel_rfl) (by simp only [go_sem]; rfl) ?_
        iterate 11 (apply DrawQ.step; (focus (simp only [Tryz.f47, cfMg, c87, hd, hdl1, a0, hpp, g0', h0l, h1l, hel, hq1, closedL_lbs, closedL_is, ss0, ss2, ss3, sse0, sse, sts0, sts, ssl, freeB, List.length_map, go_sem]; with_reducible rfl)))
        refine DrawQ.nil ⟨boxOk_ren [0, 2, 3, N + 1] [(false, none, []), (false, none, []), (false, none, [0]), (false, none, []), (false, none, [3]), (false, none, [1]), (false, none, []), (false, none, []), (false, none, [2]), (false, none, []), (false, none, [])] hnd2 (by kernel_rfl) rfl (by kernel_rfl), ?_⟩
        repeat (first | (with_reducible (first | apply wA | apply wB | apply wC | apply wD | apply wE | apply wF | apply wG | apply wH | apply wI | apply wJ | apply wK | apply wL | apply wM | apply wN | apply wO | apply wP | apply wQ rfl | apply wR | apply wS | apply wT | apply wU)) | ((with_reducible (first | apply wV | apply wW | apply wX | (apply wY [] hTT cfMg_ok noM_ok mixed; (focus kernel_rfl)))); (focus (simp only [Tryz.f47, ss6, ss7, st6, st7, sse0, sse, sts0, sts, ssl, r2, r3, List.length_append, List.length_map, go_sem]; with_reducible rfl))) | (with_reducible refine wZ hTT cfMg_ok noM_ok ?_) | (with_reducible refine wa ?_; refine And.intro ?_ ?_; (focus kernel_rfl)))
        have hd0 : decide ((U ++ [(l, dG Q l)]).length = 0) = false := by simp
        exact ⟨rfl, [.dead, .dead, .dead], by unfold bxG; rw [sapp, hd0]; simp [encA]⟩
      · have hq1 : (q.1 == p.1 && q.2 == p.2) = false := by
          rw [Bool.eq_false_iff]
          intro h
          simp at h
          exact hqp (Prod.ext h.1 h.2)
        rw [if_neg (by simpa using hqp)]
        refine RunQ.seq ?_
        refine RunQ.drawn [] hTT cfMg_ok noM_ok mixed (by kernel_rfl) (by simp only [go_sem]; rfl) ?_
        iterate 11 (apply DrawQ.step; (focus (simp only [Tryz.f47, cfMg, c87, hd, hdl1, a0, hpp, g0', h0l, h1l, hel, hq1, closedL_lbs, closedL_is, ss0, ss2, ss3, sse0, sse, sts0, sts, ssl, freeB, List.length_map, go_sem]; with_reducible rfl)))
        refine DrawQ.nil ⟨boxOk_ren [0, 2, 3, N + 1] [(false, none, []), (false, none, []), (false, none, [0]), (false, none, []), (false, none, [3]), (false, none, [1]), (false, none, []), (false, none, []), (false, none, [2]), (false, none, []), (false, none, [])] hnd2 (by kernel_rfl) rfl (by kernel_rfl), ?_⟩
        repeat (first | (with_reducible (first | apply wA | apply wB | apply wC | apply wD | apply wE | apply wF | apply wG | apply wH | apply wI | apply wJ | apply wK | apply wL | apply wM | apply wN | apply wO | apply wP | apply wQ rfl | apply wR | apply wS | apply wT | apply wU)) | ((with_reducible (first | apply wV | apply wW | apply wX | (apply wY [] hTT cfMg_ok noM_ok mixed; (focus kernel_rfl)))); (focus (simp only [Tryz.f47, go_sem]; with_reducible rfl))) | (with_reducible refine wZ hTT cfMg_ok noM_ok ?_) | (with_reducible refine wa ?_; refine And.intro ?_ ?_; (focus kernel_rfl)))
        exact ⟨rfl, [.dead, .dead], by rw [sapp]; simp [bxG]⟩
  · rintro st rfl
    rw [List.length_map, List.take_length]
    have hUl : (lstG Q (endAt s ls n p) (posesG ls)).length ≤ 59049 := by
      unfold lstG
      rw [List.length_map]
      exact Nat.le_trans (List.length_filter_le _ _) hpl
    generalize lstG Q (endAt s ls n p) (posesG ls) = U at hUl ⊢
    have hU5 : U.length ≤ 100000 := by omega
    have hdU := decAs U
    have hzU : ((if decide (U.length = 0) = true then Z.n else Z.a) = .n → U = []) := fun e => by
      split at e
      · rename_i h0
        exact List.length_eq_zero_iff.1 (of_decide_eq_true h0)
      · cases e
    have hif : ∀ x : Option (PRes × List Box), (if ((if decide (U.length = 0) = true then Z.n else Z.a) = .n → U = []) ∧ U.length ≤ 100000 then x else none) = x := fun x => if_pos ⟨hzU, hU5⟩
    have hif2 : ∀ x : Option (PRes × List Box), (if ((if U.length = 0 then Z.n else Z.a) = .n → U = []) ∧ U.length ≤ 100000 then x else none) = x := fun x => if_pos ⟨(fun e => by
      split at e
      · rename_i h0
        exact List.length_eq_zero_iff.1 h0
      · cases e), hU5⟩
    unfold bxG
    repeat (first | (with_reducible (first | apply wA | ((fail_if_success (refine RunQ.seq (x := .region 13 _ _) ?_)); (apply wB)) | apply wC | apply wD | apply wE | apply wF | apply wG | apply wH | apply wI | apply wJ | apply wK | apply wL | apply wM | apply wN | apply wO | apply wP | apply wQ rfl | apply wR | apply wS | apply wT | apply wU)) | ((with_reducible (first | apply wV | apply wW | apply wX | (apply wY [] hTT cfMg_ok noM_ok mixed; (focus kernel_rfl)))); (focus (simp only [Tryz.f47, go_sem]; with_reducible rfl))) | ((fail_if_success (with_reducible show RunQ _ (.region 13 _ _) _ _)); (with_reducible refine wZ hTT cfMg_ok noM_ok ?_)) | (with_reducible refine wa ?_; refine And.intro ?_ ?_; (focus kernel_rfl)))
    refine RunQ.seq ?_
    refine RunQ.regG hTT cfMg_ok noM_ok ?_
    apply RegG.step
    · simp only [go_sem]; with_reducible rfl
    refine RegG.freezeZ 80 7 (m := U.length) (es := U.map encA) (by simp only [go_sem]) rfl (by simp) (closedL_As U) rfl (by simp only [go_sem]; rfl) ?_
    cases hb : bestF U with
    | none =>
      have hU0 : U = [] := by
        cases U with
        | nil => rfl
        | cons x r => obtain ⟨y, hy⟩ := bestF_ne (l := x :: r) (by simp); rw [hb] at hy; cases hy
      have hR : bestR U = .tuple [.agg [.sl .n [], ii 0], .bool false] := by subst hU0; rfl
      iterate 7 (apply RegG.step; (focus (simp only [Tryz.f47, cfMg, c106, hdU, hif, hif2, hR, go_sem]; with_reducible rfl)))
      refine RegG.nil ?_
      repeat (first | (with_reducible (first | apply wA | apply wB | apply wC | apply wD | apply wE | apply wF | apply wG | apply wH | apply wI | apply wJ | apply wK | apply wL | apply wM | apply wN | apply wO | apply wP | apply wQ rfl | apply wR | apply wS | apply wT | apply wU)) | ((with_reducible (first | apply wV | apply wW | apply wX | (apply wY [] hTT cfMg_ok noM_ok mixed; (focus kernel_rfl)))); (focus (simp only [Tryz.f47, go_sem]; with_reducible rfl))) | (with_reducible refine wZ hTT cfMg_ok noM_ok ?_) | (with_reducible refine wa ?_; refine And.intro ?_ ?_; (focus kernel_rfl)))
      exact ⟨rfl, rfl, _, rfl, leave_closed rfl⟩
    | some x =>
      have h0 : 0 < U.length := by
        cases U with
        | nil => cases hb
        | cons a r => simp
      have hR : bestR U = .tuple [.agg [pvA x.1, ii x.2], .bool true] := by unfold bestR; rw [hb, decide_eq_true h0]; rfl
      iterate 7 (apply RegG.step; (focus (simp only [Tryz.f47, cfMg, c106, hdU, hif, hif2, hR, go_sem]; with_reducible rfl)))
      refine RegG.nil ?_
      repeat (first | (with_reducible (first | apply wA | apply wB | apply wC | apply wD | apply wE | apply wF | apply wG | apply wH | apply wI | apply wJ | apply wK | apply wL | apply wM | apply wN | apply wO | apply wP | apply wQ rfl | apply wR | apply wS | apply wT | apply wU)) | ((with_reducible (first | apply wV | apply wW | apply wX | (apply wY [] hTT cfMg_ok noM_ok mixed; (focus kernel_rfl)))); (focus (simp only [Tryz.f47, go_sem]; with_reducible rfl))) | (with_reducible refine wZ hTT cfMg_ok noM_ok ?_) | (with_reducible refine wa ?_; refine And.intro ?_ ?_; (focus kernel_rfl)))
      exact ⟨rfl, rfl, _, rfl, leave_closed (show closedL [pvA x.1, ii x.2, ii 0] = true from by simp [closedL, PV.closed, closedL_is])⟩
def c47 : List PV → List Box → Option (PRes × List Box)
  | [v, w, q, .int .i64 n, p], sg => match decFig v, decStg w, decIs1 q, decPl p with
    | some (s, ls), some g, some a, some p => some (.ret (aimR s ls g a n p), sg)
    | _, _, _, _ => none
  | _, _ => none
theorem c47_ok : ConOk Tryz.prog 47 c47 := ConOk.of0 (ent Tryz.func47 rfl) fun args sg r sg' h => by
  unfold c47 at h
  split at h <;> try (cases h; done)
  split at h <;> cases h
  rename_i h1 h2 h3 h4
  obtain ⟨z, rfl, hz⟩ := decFig_inv h1
  obtain ⟨zh, zr, rfl, hh, hr⟩ := decStg_inv h2
  obtain ⟨zp, rfl, hp⟩ := decIs1_inv h3
  obtain rfl := decPl_inv _ _ h4
  exact ⟨_, rfl, rfl, by rw [ltBL_cons, ltB_fig, ltBL_cons, ltB_stg, ltBL_cons, ltB_isl]; rfl, Aim_47 _ _ _ _ _ _ _ _ _ _ (zOk_n' hz) hh hr (zOk_n' hp)⟩
end Go.Pv
