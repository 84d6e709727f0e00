/- Contracts: the reference's lists between two others. -/
import Derived.Test.YtmnocohggpmjcaaGreatDoorQoFine
import Derived.Test.YtmnocohggpmjcaaGreatDoorQlGh
import Derived.Test.YtmnocohggpmjcaaGreatDoorQtA
set_option linter.all false
namespace Go.Pv
open Go Go.RowKit Go.Proofs
set_option maxRecDepth 10000
set_option maxHeartbeats 4000000
theorem exts_snoc (s : Int × Int) : ∀ (sp : List (Int × Int)) (now : List Int), exts (sp ++ [s]) now = (exts sp now).flatMap fun l => (rng s.1 s.2).map fun n => l ++ [n]
  | [], now => by
    show (rng s.1 s.2).flatMap (fun n => [now ++ [n]]) = [now].flatMap _
    rw [List.flatMap_cons, List.flatMap_nil, List.append_nil, List.map_eq_flatMap]
  | x :: r, now => by
    show (rng x.1 x.2).flatMap (fun n => exts (r ++ [s]) (now ++ [n])) = ((rng x.1 x.2).flatMap fun n => exts r (now ++ [n])).flatMap _
    rw [List.flatMap_assoc]
    congr 1
    funext n
    exact exts_snoc s r _
theorem exts_ln : ∀ (sp : List (Int × Int)) (now l : List Int), l ∈ exts sp now → l.length = now.length + sp.length
  | [], now, l, h => by
    have : l ∈ [now] := h
    simp at this; subst this; simp
  | x :: r, now, l, h => by
    have h : l ∈ (rng x.1 x.2).flatMap (fun n => exts r (now ++ [n])) := h
    obtain ⟨n, _, hl⟩ := List.mem_flatMap.1 h
    have := exts_ln r _ _ hl
    simp at this ⊢; omega
abbrev loP (z : Z) (sp : List (Int × Int)) : PV := .sl z ((sp.map (·.1)).map ii)
abbrev hiP (z : Z) (sp : List (Int × Int)) : PV := .sl z ((sp.map (·.2)).map ii)
def outE (sp : List (Int × Int)) (i : Nat) : PV := .sl (if i = 0 then .f else .a) ((exts (sp.take i) []).map pvL)
def nxE (lo hi : Int) (L : List (List Int)) : List (List Int) := L.flatMap fun l => (rng lo hi).map fun n => l ++ [n]
theorem exts_ne : ∀ (sp : List (Int × Int)) (now : List Int), (∀ x ∈ sp, x.1 ≤ x.2) → exts sp now ≠ []
  | [], now, _ => by simp [exts]
  | x :: r, now, h => fun e => by
    have h1 := h x (by simp)
    obtain ⟨y, hy⟩ := List.exists_mem_of_ne_nil _ (exts_ne r (now ++ [x.1]) fun z hz => h z (by simp [hz]))
    have : y ∈ exts (x :: r) now := List.mem_flatMap.2 ⟨x.1, mem_rng.2 (by omega), hy⟩
    rw [e] at this
    cases this
theorem pvL_closed (l : List Int) : (pvL l).closed = true := by unfold pvL; exact closedL_is l
theorem closedL_pv (l : List (List Int)) : closedL (l.map pvL) = true := closedL_map pvL_closed l
theorem ltB_pv (m : Nat) (l : List (List Int)) : ltBL m (l.map pvL) = true := ltBL_map (fun x => by unfold pvL; rw [ltB_sl]; exact ltB_is m x) l
theorem all_mi2 (l : List Int) (p : PV → Bool) : (l.map ii).all p = l.all fun x => p (ii x) := by rw [List.all_map]; rfl
theorem all_t2 {α : Type} (l : List α) : (l.all fun _ => true) = true := by simp
theorem between_138 (za zb : Z) (sp : List (Int × Int)) (ha : za ≠ .n) (hb : zb ≠ .n) (hne : sp ≠ []) (hl : sp.length ≤ 5) (hs : ∀ x ∈ sp, -4 ≤ x.1 ∧ x.1 ≤ x.2 ∧ x.2 ≤ 4) :
    CallOk Tryz.prog 138 [loP za sp, hiP zb sp] [] (.ret (.sl .a ((exts sp []).map pvL))) [] := by
  refine CallOk.ofF hTT Tryz.func138 rfl rfl ?_
  have hc1 : (loP za sp).closed = true := closedL_is _
  have hc2 : (hiP zb sp).closed = true := closedL_is _
  have hEl : ∀ i, (exts (sp.take i) []).length ≤ 59049 := fun i => by
    have h1 := exts_len 9 (sp.take i) [] (fun x hx => by have := hs x (List.mem_of_mem_take hx); omega)
    have h2 : (sp.take i).length ≤ 5 := by simp; omega
    exact Nat.le_trans h1 (Nat.le_trans (Nat.pow_le_pow_right (by decide) h2) (by decide))
  repeat (first | (with_reducible (first | apply wA | apply wB | apply wC | apply wD | apply wE | apply wF | apply wG | apply wH | apply wI | apply wJ | apply wK | apply wL | apply wM | apply wN | apply wO | apply wP | apply wQ rfl | apply wR | apply wS | apply wT | apply wU)) | ((with_reducible (first | apply wV | apply wW | apply wX | (apply wY [] hTT cf0_ok noM_ok mixed; (focus kernel_rfl)))); (focus (simp only [Tryz.f138, go_sem]; with_reducible rfl))) | (with_reducible refine wZ hTT cf0_ok noM_ok ?_) | (with_reducible refine wa ?_; refine And.intro ?_ ?_; (focus kernel_rfl)))
  refine RunQ.keep [6, 5, 4, 0, 1] (by simp only [go_sem]; rfl) ?_
  refine RunQ.loop (fun i s' => s' = ⟨[(6, ii i), (5, outE sp i), (4, .sl .n []), (0, loP za sp), (1, hiP zb sp)], 48, []⟩) sp.length rfl ?_
  rintro i _ hi rfl
  by_cases hlt : i < sp.length
  · obtain ⟨⟨lo, hi'⟩, hx⟩ : ∃ x, sp[i]? = some x := ⟨_, List.getElem?_eq_getElem hlt⟩
    have hx1 : ((sp.map (·.1)).map ii)[i]? = some (ii lo) := by simp [hx]
    have hx2 : ((sp.map (·.2)).map ii)[i]? = some (ii hi') := by simp [hx]
    have hbd := hs _ (List.mem_of_getElem? hx)
    simp only at hbd
    have hlt' : (i : Int) < sp.length := by omega
    have e4 : IntKind.i64.wrap ((i : Int) + 1) = ((i + 1 : Nat) : Int) := wrap_id (by omega) (by omega)
    have hEi := hEl i
    have hlen : ∀ l ∈ exts (sp.take i) [], l.length = i := fun l h => by
      have := exts_ln _ _ _ h
      simp at this; omega
    have ho : outE sp i = .sl (if i = 0 then .f else .a) ((exts (sp.take i) []).map pvL) := rfl
    have hzi : (if i = 0 then Z.f else Z.a) ≠ .n := by split <;> simp
    rw [ho]
    have hsn : exts (sp.take (i + 1)) [] = nxE lo hi' (exts (sp.take i) []) := by rw [List.take_add_one, hx]; exact exts_snoc _ _ _
    generalize (if i = 0 then Z.f else Z.a) = zi at hzi ⊢
    generalize hE : exts (sp.take i) [] = E at *
    repeat (first | (with_reducible (first | apply wA | apply wB | apply wC | apply wD | apply wE | apply wF | apply wG | apply wH | apply wI | apply wJ | apply wK | apply wL | apply wM | apply wN | apply wO | apply wP | apply wQ rfl | apply wR | apply wS | apply wT | apply wU)) | ((with_reducible (first | apply wV | apply wW | apply wX | (apply wY [] hTT cf0_ok noM_ok mixed; (focus kernel_rfl)))); (focus (simp only [Tryz.f138, hlt', List.length_map, go_sem]; with_reducible rfl))) | (with_reducible refine wZ hTT cf0_ok noM_ok ?_) | (with_reducible refine wa ?_; refine And.intro ?_ ?_; (focus kernel_rfl)))
    refine RunQ.keep [8, 7, 6, 5, 4, 0, 1] (by simp only [go_sem]; rfl) ?_
    refine RunQ.nilRow 7 25 1 (by simp only [go_sem]) (by simp only [go_sem]; rfl) (by simp only [go_sem]; rfl) ?_
    refine RunQ.loop (fun k s' => s' = ⟨[(8, ii k), (7, .ms 0 (nxE lo hi' (E.take k)).length), (6, ii i), (5, .sl zi (E.map pvL)), (4, .sl .n []), (0, loP za sp), (1, hiP zb sp)], 48, [.row (decide ((nxE lo hi' (E.take k)).length = 0)) 25 1 ((nxE lo hi' (E.take k)).map pvL) false]⟩) E.length rfl ?_
    rintro k _ hk rfl
    have hnk : (nxE lo hi' (E.take k)).length ≤ 59049 * 9 := by
      have := flatMap_le (fun l => (rng lo hi').map fun n => l ++ [n]) 9 (E.take k) (fun l _ => by simp [rng]; omega)
      have h2 : (E.take k).length ≤ 59049 := by simp; omega
      exact Nat.le_trans this (Nat.mul_le_mul_right 9 h2)
    by_cases hkl : k < E.length
    · obtain ⟨l, hkx⟩ : ∃ l, E[k]? = some l := ⟨_, List.getElem?_eq_getElem hkl⟩
      have hkx' : (E.map pvL)[k]? = some (pvL l) := map_get hkx
      have hll := hlen l (List.mem_of_getElem? hkx)
      have hkl' : (k : Int) < E.length := by omega
      have e5 : IntKind.i64.wrap ((k : Int) + 1) = ((k + 1 : Nat) : Int) := wrap_id (by omega) (by omega)
      have hnx : nxE lo hi' (E.take (k + 1)) = nxE lo hi' (E.take k) ++ (rng lo hi').map fun n => l ++ [n] := by
        unfold nxE
        rw [List.take_add_one, hkx]
        simp
      generalize hN : nxE lo hi' (E.take k) = N at *
      repeat (first | (with_reducible (first | apply wA | apply wB | apply wC | apply wD | apply wE | apply wF | apply wG | apply wH | apply wI | apply wJ | apply wK | apply wL | apply wM | apply wN | apply wO | apply wP | apply wQ rfl | apply wR | apply wS | apply wT | apply wU)) | ((with_reducible (first | apply wV | apply wW | apply wX | (apply wY [] hTT cf0_ok noM_ok mixed; (focus kernel_rfl)))); (focus (simp only [Tryz.f138, hkl', hx1, ha, hlt', List.length_map, go_sem]; with_reducible rfl))) | (with_reducible refine wZ hTT cf0_ok noM_ok ?_) | (with_reducible refine wa ?_; refine And.intro ?_ ?_; (focus kernel_rfl)))
      refine RunQ.keep [9, 8, 7, 6, 5, 4, 0, 1] (by simp only [go_sem]; rfl) ?_
      have hNlen : N.length ≤ 531441 := hnk
      refine RunQ.loop (fun t s' => s' = ⟨[(9, ii (lo + (t : Int))), (8, ii k), (7, .ms 0 (N ++ ((rng lo hi').take t).map fun n => l ++ [n]).length), (6, ii i), (5, .sl zi (E.map pvL)), (4, .sl .n []), (0, loP za sp), (1, hiP zb sp)], 48, [.row (decide ((N ++ ((rng lo hi').take t).map fun n => l ++ [n]).length = 0)) 25 1 ((N ++ ((rng lo hi').take t).map fun n => l ++ [n]).map pvL) false]⟩) (hi' + 1 - lo).toNat (by simp) ?_
      rintro t _ ht rfl
      by_cases htl : t < (hi' + 1 - lo).toNat
      · have hle : lo + (t : Int) ≤ hi' := by omega
        have e6 : IntKind.i64.wrap (lo + (t : Int) + 1) = lo + ((t + 1 : Nat) : Int) := by rw [wrap_id (by omega) (by omega)]; omega
        have htk : (rng lo hi').take (t + 1) = (rng lo hi').take t ++ [lo + (t : Int)] := by
          rw [List.take_add_one]
          congr 1
          simp [rng, htl]
        have hpv : pvL (l ++ [lo + (t : Int)]) = .sl .a (l.map ii ++ [ii (lo + (t : Int))]) := by unfold pvL; cases l <;> simp
        generalize hM : (N ++ ((rng lo hi').take t).map fun n => l ++ [n]) = M
        have hM2 : (N ++ ((rng lo hi').take (t + 1)).map fun n => l ++ [n]) = M ++ [l ++ [lo + (t : Int)]] := by rw [htk, ← hM]; simp
        have hMl : M.length ≤ 531450 := by
          rw [← hM]
          have : ((rng lo hi').take t).length ≤ 9 := by simp [rng]; omega
          simp only [List.length_append, List.length_map]
          omega
        have r1 : (M.length + 1) * 24 ≤ 140737488355328 := by omega
        have r2 : M.length + 1 ≤ maxLen := by unfold maxLen; omega
        have r3 : (l.length + 1) * 8 ≤ 140737488355328 := by omega
        have r4 : l.length + 1 ≤ maxLen := by unfold maxLen; omega
        have r5 : l.length * 8 ≤ 140737488355328 := by omega
        have r6 : l.length ≤ maxLen := by unfold maxLen; omega
        by_cases hl0 : l = []
        · subst hl0
          repeat (first | (with_reducible (first | apply wA | ((fail_if_success (refine RunQ.seq (x := .region 12 _ _) ?_)); (apply wB)) | apply wC | apply wD | apply wE | apply wF | apply wG | apply wH | apply wI | apply wJ | apply wK | apply wL | apply wM | apply wN | apply wO | apply wP | apply wQ rfl | apply wR | apply wS | apply wT | apply wU)) | ((with_reducible (first | apply wV | apply wW | apply wX | (apply wY [] hTT cf0_ok noM_ok mixed; (focus kernel_rfl)))); (focus (simp only [Tryz.f138, hx2, hle, hb, hlt', List.length_map, go_sem]; with_reducible rfl))) | ((fail_if_success (with_reducible show RunQ _ (.region 12 _ _) _ _)); (with_reducible refine wZ hTT cf0_ok noM_ok ?_)) | (with_reducible refine wa ?_; refine And.intro ?_ ?_; (focus kernel_rfl)))
          refine RunQ.regG hTT cf0_ok noM_ok ?_
          iterate 9 (apply RegG.step; (focus (simp only [Tryz.f138, hkx', hkl', hzi, pvL, r1, r2, List.length_map, go_sem]; rfl)))
          refine RegG.freeze 43 2 (es := [ii (lo + (t : Int))]) (by simp only [go_sem]) rfl rfl rfl (by simp only [go_sem]; rfl) (by simp only [go_sem]; rfl) ?_
          iterate 3 (apply RegG.step; (focus (simp only [Tryz.f138, r1, r2, List.length_map, go_sem]; rfl)))
          refine RegG.nil ?_
          repeat (first | (with_reducible (first | apply wA | apply wB | apply wC | apply wD | apply wE | apply wF | apply wG | apply wH | apply wI | apply wJ | apply wK | apply wL | apply wM | apply wN | apply wO | apply wP | apply wQ rfl | apply wR | apply wS | apply wT | apply wU)) | ((with_reducible (first | apply wV | apply wW | apply wX | (apply wY [] hTT cf0_ok noM_ok mixed; (focus kernel_rfl)))); (focus (simp only [Tryz.f138, e6, go_sem]; with_reducible rfl))) | (with_reducible refine wZ hTT cf0_ok noM_ok ?_) | (with_reducible refine wa ?_; refine And.intro ?_ ?_; (focus kernel_rfl)))
          refine roundQ.t 1 [9, 8, 7, 6, 5, 4, 0, 1] htl (by simp only [ltB_is, ltB_pv, go_sem]) (by rw [hM2]; simp only [pvL, List.map_append, List.isEmpty_cons, go_sem])
        · have hpl : pvL l = .sl .a (l.map ii) := by unfold pvL; cases l with
            | nil => exact absurd rfl hl0
            | cons a r => rfl
          have hie : (l.map ii).isEmpty = false := by cases l with
            | nil => exact absurd rfl hl0
            | cons a r => rfl
          repeat (first | (with_reducible (first | apply wA | ((fail_if_success (refine RunQ.seq (x := .region 12 _ _) ?_)); (apply wB)) | apply wC | apply wD | apply wE | apply wF | apply wG | apply wH | apply wI | apply wJ | apply wK | apply wL | apply wM | apply wN | apply wO | apply wP | apply wQ rfl | apply wR | apply wS | apply wT | apply wU)) | ((with_reducible (first | apply wV | apply wW | apply wX | (apply wY [] hTT cf0_ok noM_ok mixed; (focus kernel_rfl)))); (focus (simp only [Tryz.f138, hx2, hle, hb, hlt', List.length_map, go_sem]; with_reducible rfl))) | ((fail_if_success (with_reducible show RunQ _ (.region 12 _ _) _ _)); (with_reducible refine wZ hTT cf0_ok noM_ok ?_)) | (with_reducible refine wa ?_; refine And.intro ?_ ?_; (focus kernel_rfl)))
          refine RunQ.regG hTT cf0_ok noM_ok ?_
          iterate 9 (apply RegG.step; (focus (simp only [Tryz.f138, hkx', hkl', hzi, hpl, hie, all_mi2, all_t2, r3, r4, r5, r6, List.length_map, go_sem]; rfl)))
          refine RegG.freeze 43 1 (es := l.map ii ++ [ii (lo + (t : Int))]) (by simp only [go_sem]; rfl) rfl (by simp) (by rw [closedL_append, closedL_is]; rfl) (by simp only [go_sem]; rfl) (by simp only [go_sem]; rfl) ?_
          iterate 3 (apply RegG.step; (focus (simp only [Tryz.f138, r1, r2, List.length_map, go_sem]; rfl)))
          refine RegG.nil ?_
          repeat (first | (with_reducible (first | apply wA | apply wB | apply wC | apply wD | apply wE | apply wF | apply wG | apply wH | apply wI | apply wJ | apply wK | apply wL | apply wM | apply wN | apply wO | apply wP | apply wQ rfl | apply wR | apply wS | apply wT | apply wU)) | ((with_reducible (first | apply wV | apply wW | apply wX | (apply wY [] hTT cf0_ok noM_ok mixed; (focus kernel_rfl)))); (focus (simp only [Tryz.f138, e6, go_sem]; with_reducible rfl))) | (with_reducible refine wZ hTT cf0_ok noM_ok ?_) | (with_reducible refine wa ?_; refine And.intro ?_ ?_; (focus kernel_rfl)))
          refine roundQ.t 1 [9, 8, 7, 6, 5, 4, 0, 1] htl (by simp only [ltB_is, ltB_pv, go_sem]) (by rw [hM2]; simp only [hpv, List.map_append, go_sem])
      · have hle : ¬ lo + (t : Int) ≤ hi' := by omega
        obtain rfl : t = (hi' + 1 - lo).toNat := by omega
        have htk : (rng lo hi').take (hi' + 1 - lo).toNat = rng lo hi' := List.take_of_length_le (by simp [rng])
        rw [htk, ← hnx]
        generalize hM : nxE lo hi' (E.take (k + 1)) = M
        repeat (first | (with_reducible (first | apply wA | apply wB | apply wC | apply wD | apply wE | apply wF | apply wG | apply wH | apply wI | apply wJ | apply wK | apply wL | apply wM | apply wN | apply wO | apply wP | apply wQ rfl | apply wR | apply wS | apply wT | apply wU)) | ((with_reducible (first | apply wV | apply wW | apply wX | (apply wY [] hTT cf0_ok noM_ok mixed; (focus kernel_rfl)))); (focus (simp only [Tryz.f138, hx2, hle, hb, hlt', e5, List.length_map, go_sem]; with_reducible rfl))) | (with_reducible refine wZ hTT cf0_ok noM_ok ?_) | (with_reducible refine wa ?_; refine And.intro ?_ ?_; (focus kernel_rfl)))
        refine roundQ.t 1 [8, 7, 6, 5, 4, 0, 1] hkl (by simp only [ltB_is, ltB_pv, go_sem]) (by rw [hM]; simp only [go_sem])
    · have hkl' : ¬ (k : Int) < E.length := by omega
      obtain rfl : k = E.length := by omega
      have hEt : E.take E.length = E := List.take_length
      rw [hEt]
      have hM0 : nxE lo hi' E ≠ [] := by rw [← hsn]; exact exts_ne _ _ fun x hx => (hs x (List.mem_of_mem_take hx)).2.1
      have ho2 : outE sp (i + 1) = .sl .a ((nxE lo hi' E).map pvL) := by unfold outE; rw [if_neg (by omega), hsn]
      generalize hM : nxE lo hi' E = M at *
      have hz0 : decide (M.length = 0) = false := by simp [hM0]
      rw [hz0]
      repeat (first | (with_reducible (first | apply wA | ((fail_if_success (refine RunQ.seq (x := .region 4 _ _) ?_)); (apply wB)) | apply wC | apply wD | apply wE | apply wF | apply wG | apply wH | apply wI | apply wJ | apply wK | apply wL | apply wM | apply wN | apply wO | apply wP | apply wQ rfl | apply wR | apply wS | apply wT | apply wU)) | ((with_reducible (first | apply wV | apply wW | apply wX | (apply wY [] hTT cf0_ok noM_ok mixed; (focus kernel_rfl)))); (focus (simp only [Tryz.f138, hkl', hlt', List.length_map, go_sem]; with_reducible rfl))) | ((fail_if_success (with_reducible show RunQ _ (.region 4 _ _) _ _)); (with_reducible refine wZ hTT cf0_ok noM_ok ?_)) | (with_reducible refine wa ?_; refine And.intro ?_ ?_; (focus kernel_rfl)))
      refine RunQ.freeze 5 0 (es := M.map pvL) (by simp only [go_sem]; rfl) rfl (by simp) (closedL_pv M) (by simp only [go_sem]; rfl) (by simp only [go_sem]; rfl) ?_
      repeat (first | (with_reducible (first | apply wA | apply wB | apply wC | apply wD | apply wE | apply wF | apply wG | apply wH | apply wI | apply wJ | apply wK | apply wL | apply wM | apply wN | apply wO | apply wP | apply wQ rfl | apply wR | apply wS | apply wT | apply wU)) | ((with_reducible (first | apply wV | apply wW | apply wX | (apply wY [] hTT cf0_ok noM_ok mixed; (focus kernel_rfl)))); (focus (simp only [Tryz.f138, e4, go_sem]; with_reducible rfl))) | (with_reducible refine wZ hTT cf0_ok noM_ok ?_) | (with_reducible refine wa ?_; refine And.intro ?_ ?_; (focus kernel_rfl)))
      refine roundQ.t 0 [6, 5, 4, 0, 1] hlt (by simp only [ltB_is, ltB_pv, go_sem]) (by rw [ho2]; simp only [go_sem])
  · have hlt' : ¬ (i : Int) < sp.length := by omega
    obtain rfl : i = sp.length := by omega
    have ho : outE sp sp.length = .sl .a ((exts sp []).map pvL) := by
      unfold outE
      rw [if_neg (fun e => hne (List.length_eq_zero_iff.1 e)), List.take_length]
    rw [ho]
    repeat (first | (with_reducible (first | apply wA | apply wB | apply wC | apply wD | apply wE | apply wF | apply wG | apply wH | apply wI | apply wJ | apply wK | apply wL | apply wM | apply wN | apply wO | apply wP | apply wQ rfl | apply wR | apply wS | apply wT | apply wU)) | ((with_reducible (first | apply wV | apply wW | apply wX | (apply wY [] hTT cf0_ok noM_ok mixed; (focus kernel_rfl)))); (focus (simp only [Tryz.f138, hlt', List.length_map, go_sem]; with_reducible rfl))) | (with_reducible refine wZ hTT cf0_ok noM_ok ?_) | (with_reducible refine wa ?_; refine And.intro ?_ ?_; (focus kernel_rfl)))
    exact ⟨rfl, rfl, _, rfl, leave_closed (closedL_pv _)⟩
end Go.Pv
namespace Go.Pv
open Go Go.RowKit Go.Proofs
set_option maxRecDepth 10000
set_option maxHeartbeats 4000000
def losG (ls : List Lb) : List Int := (spansG ls).map (·.1)
def hisG (ls : List Lb) : List Int := (spansG ls).map (·.2)
theorem All_92 (s : Int) (z : Z) (ls : List Lb) (hzo : zOk z (ls.map encLb) = true) (hf : figB s ls = true) : CallOk Tryz.prog 92 [.agg [ii s, .sl z (ls.map encLb)]] [] (.ret (.sl .a ((posesG ls).map pvL))) [] := by
  refine CallOk.ofF hTT Tryz.func92 rfl rfl ?_
  have hl := fig_len hf
  have hne : ls ≠ [] := fun e => by rw [e] at hl; simp at hl
  have hz : z ≠ .n := fun e => hne (zOk_map hzo e)
  obtain ⟨_, _, _, _, hlb⟩ := fig_limbs hf
  repeat (first | (with_reducible (first | apply wA | apply wB | apply wC | apply wD | apply wE | apply wF | apply wG | apply wH | apply wI | apply wJ | apply wK | apply wL | apply wM | apply wN | apply wO | apply wP | apply wQ rfl | apply wR | apply wS | apply wT | apply wU)) | ((with_reducible (first | apply wV | apply wW | apply wX | (apply wY [] hTT cf0_ok noM_ok mixed; (focus kernel_rfl)))); (focus (simp only [Tryz.f92, go_sem]; with_reducible rfl))) | (with_reducible refine wZ hTT cf0_ok noM_ok ?_) | (with_reducible refine wa ?_; refine And.intro ?_ ?_; (focus kernel_rfl)))
  refine RunQ.keep [5, 4, 3, 2, 1] (by simp only [go_sem]; rfl) ?_
  refine RunQ.nilRow 3 3 1 (by simp only [go_sem]) (by simp only [go_sem]; rfl) (by simp only [go_sem]; rfl) ?_
  refine RunQ.nilRow 4 3 1 (by simp only [go_sem]) (by simp only [go_sem]; rfl) (by simp only [go_sem]; rfl) ?_
  refine RunQ.loop (fun i s' => s' = ⟨[(5, ii i), (4, .ms 2 i), (3, .ms 1 i), (2, .sl .n []), (1, .bp 0 0)], 34, [.var [ii s, .sl z (ls.map encLb)] false, .row (decide (i = 0)) 3 1 ((losG (ls.take i)).map ii) false, .row (decide (i = 0)) 3 1 ((hisG (ls.take i)).map ii) false]⟩)
    ls.length rfl ?_
  rintro i _ hi rfl
  by_cases hlt : i < ls.length
  · obtain ⟨x, hx⟩ : ∃ x, ls[i]? = some x := ⟨_, List.getElem?_eq_getElem hlt⟩
    have hx' : (ls.map encLb)[i]? = some (.agg [ii x.p, ii x.l, ii x.lo, ii x.hi, ii x.w]) := map_get hx
    have hlt' : (i : Int) < ls.length := by omega
    have e4 : IntKind.i64.wrap ((i : Int) + 1) = ((i + 1 : Nat) : Int) := wrap_id (by omega) (by omega)
    have r2 : i + 1 ≤ maxLen := by unfold maxLen; omega
    have r3 : (i + 1) * 8 ≤ 140737488355328 := by omega
    have hd1 : decide (i + 1 = 0) = false := by simp
    have ht1 : (losG (ls.take (i + 1))).map ii = (losG (ls.take i)).map ii ++ [ii x.lo] := by
      rw [List.take_add_one, hx]; simp [losG, spansG]
    have ht2 : (hisG (ls.take (i + 1))).map ii = (hisG (ls.take i)).map ii ++ [ii x.hi] := by
      rw [List.take_add_one, hx]; simp [hisG, spansG]
    have hn1 : (losG (ls.take i)).length = i := by simp [losG, spansG]; omega
    have hn2 : (hisG (ls.take i)).length = i := by simp [hisG, spansG]; omega
    repeat (first | (with_reducible (first | apply wA | apply wB | apply wC | apply wD | apply wE | apply wF | apply wG | apply wH | apply wI | apply wJ | apply wK | apply wL | apply wM | apply wN | apply wO | apply wP | apply wQ rfl | apply wR | apply wS | apply wT | apply wU)) | ((with_reducible (first | apply wV | apply wW | apply wX | (apply wY [] hTT cf0_ok noM_ok mixed; (focus kernel_rfl)))); (focus (simp only [Tryz.f92, hx', hlt', hz, e4, r2, r3, hn1, hn2, go_sem]; with_reducible rfl))) | (with_reducible refine wZ hTT cf0_ok noM_ok ?_) | (with_reducible refine wa ?_; refine And.intro ?_ ?_; (focus kernel_rfl)))
    refine roundQ.t 3 [5, 4, 3, 2, 1] hlt (by simp only [ltB_is, ltB_lbs, go_sem]) (by rw [ht1, ht2]; simp only [hd1, go_sem])
  · have hlt' : ¬ (i : Int) < ls.length := by omega
    obtain rfl : i = ls.length := by omega
    have hi0 : decide (ls.length = 0) = false := by simp [hne]
    have htk : ls.take ls.length = ls := List.take_length
    rw [hi0, htk]
    have hn1 : (losG ls).length = ls.length := by simp [losG, spansG]
    have hn2 : (hisG ls).length = ls.length := by simp [hisG, spansG]
    have hc := (between_138 .a .a (spansG ls) (by simp) (by simp) (by simp [spansG, hne]) (by simp [spansG]; omega) (fun y hy => by
      obtain ⟨w, hw, rfl⟩ := List.mem_map.1 hy
      obtain ⟨j, hj, rfl⟩ := List.mem_iff_getElem.1 hw
      have := hlb j _ (List.getElem?_eq_getElem hj)
      simp [lbB, inB] at this
      simp only
      omega))
    repeat (first | (with_reducible (first | apply wA | ((fail_if_success (refine RunQ.seq (x := .region 6 _ _) ?_)); (apply wB)) | apply wC | apply wD | apply wE | apply wF | apply wG | apply wH | apply wI | apply wJ | apply wK | apply wL | apply wM | apply wN | apply wO | apply wP | apply wQ rfl | apply wR | apply wS | apply wT | apply wU)) | ((with_reducible (first | apply wV | apply wW | apply wX | (apply wY [] hTT cf0_ok noM_ok mixed; (focus kernel_rfl)))); (focus (simp only [Tryz.f92, hlt', hz, go_sem]; with_reducible rfl))) | ((fail_if_success (with_reducible show RunQ _ (.region 6 _ _) _ _)); (with_reducible refine wZ hTT cf0_ok noM_ok ?_)) | (with_reducible refine wa ?_; refine And.intro ?_ ?_; (focus kernel_rfl)))
    refine RunQ.freeze 3 1 (es := (losG ls).map ii) (by simp only [go_sem]; rfl) rfl (by simp [hn1]) (closedL_is _) (by simp only [go_sem]; rfl) (by simp only [go_sem]; rfl) ?_
    refine RunQ.freeze 4 2 (es := (hisG ls).map ii) (by simp only [go_sem]; rfl) rfl (by simp [hn2]) (closedL_is _) (by simp only [go_sem]; rfl) (by simp only [go_sem]; rfl) ?_
    have hfr := hc.frame (fun x hx => by
      simp only [List.mem_cons, List.not_mem_nil, or_false] at hx
      rcases hx with rfl | rfl
      · exact lt_of_closed _ (closedL_is _)
      · exact lt_of_closed _ (closedL_is _)) [.var [ii s, .sl z (ls.map encLb)] false, .row false 3 1 ((losG ls).map ii) true, .row false 3 1 ((hisG ls).map ii) true]
    repeat (first | (with_reducible (first | apply wA | apply wB | apply wC | apply wD | apply wE | apply wF | apply wG | apply wH | apply wI | apply wJ | apply wK | apply wL | apply wM | apply wN | apply wO | apply wP | apply wQ rfl | apply wR | apply wS | apply wT | apply wU)) | ((with_reducible (first | apply wV | apply wW | apply wX | (apply wY [] hTT (cfOne_ok cf0_ok (ent Tryz.func138 rfl) hfr (SameLoops.refl _)) noM_ok mixed; (focus kernel_rfl)))); (focus (simp only [Tryz.f92, cfOne, losG, hisG, go_sem]; with_reducible rfl))) | (with_reducible refine wZ hTT (cfOne_ok cf0_ok (ent Tryz.func138 rfl) hfr (SameLoops.refl _)) noM_ok ?_) | (with_reducible refine wa ?_; refine And.intro ?_ ?_; (focus kernel_rfl)))
    exact ⟨rfl, rfl, _, rfl, leave_closed (closedL_pv _)⟩
def c92 : List PV → List Box → Option (PRes × List Box)
  | [v], sg => match decFig v with
    | some (s, ls) => if figB s ls = true then some (.ret (.sl .a ((posesG ls).map pvL)), sg) else none
    | none => none
  | _, _ => none
theorem c92_ok : ConOk Tryz.prog 92 c92 := ConOk.of0 (ent Tryz.func92 rfl) fun args sg r sg' h => by
  unfold c92 at h
  split at h <;> try (cases h; done)
  split at h <;> try (cases h; done)
  rename_i h1
  split at h <;> cases h
  rename_i hc
  obtain ⟨z, rfl, hz⟩ := decFig_inv h1
  exact ⟨_, rfl, rfl, by rw [ltBL_cons, ltB_fig]; rfl, All_92 _ _ _ (zOk_n' hz) hc⟩
def c44 : List PV → List Box → Option (PRes × List Box)
  | [v, w, p], sg => match decFig v, decStg w, decIs1 p with
    | some (s, ls), some g, some ps => if figB s ls = true ∧ stgG ls g = true ∧ poseG ls ps = true then some (.ret (.bool (finG s ls g ps)), sg) else none
    | _, _, _ => none
  | _, _ => none
theorem c44_ok : ConOk Tryz.prog 44 c44 := ConOk.of0 (ent Tryz.func44 rfl) fun args sg r sg' h => by
  unfold c44 at h
  split at h <;> try (cases h; done)
  split at h <;> try (cases h; done)
  rename_i h1 h2 h3
  split at h <;> cases h
  rename_i hc
  obtain ⟨z, rfl, hz⟩ := decFig_inv h1
  obtain ⟨zh, zr, rfl, hh, hr⟩ := decStg_inv h2
  obtain ⟨zp, rfl, hp⟩ := decIs1_inv h3
  exact ⟨_, rfl, rfl, by rw [ltBL_cons, ltB_fig, ltBL_cons, ltB_stg, ltBL_cons, ltB_isl]; rfl, Fine_44 _ _ _ _ _ _ _ _ (zOk_n' hz) hh hr (zOk_n' hp) hc.1 hc.2.1 hc.2.2⟩
end Go.Pv
