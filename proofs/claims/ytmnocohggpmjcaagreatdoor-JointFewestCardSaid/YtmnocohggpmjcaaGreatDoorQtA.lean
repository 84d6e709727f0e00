/- Contracts: the reference's lists between two others. -/
import Derived.Test.YtmnocohggpmjcaaGreatDoorQoFine
import Derived.Test.YtmnocohggpmjcaaGreatDoorQlLoop
import Derived.Test.YtmnocohggpmjcaaGreatDoorQgEnds
set_option linter.all false
namespace Go.Pv
open Go Go.RowKit Go.Proofs
set_option maxRecDepth 10000
set_option maxHeartbeats 4000000
theorem exts_snoc (s : Int × Int) : ∀ (sp : List (Int × Int)) (now : List Int), exts (sp ++ [s]) now = (exts sp now).flatMap fun l => (rng s.1 s.2).map fun n => l ++ [n]
  | [], now => by
    show (rng s.1 s.2).flatMap (fun n => [now ++ [n]]) = [now].flatMap _
    rw [List.flatMap_cons, List.flatMap_nil, List.append_nil, List.map_eq_flatMap]
  | x :: r, now => by
    show (rng x.1 x.2).flatMap (fun n => exts (r ++ [s]) (now ++ [n])) = ((rng x.1 x.2).flatMap fun n => exts r (now ++ [n])).flatMap _
    rw [List.flatMap_assoc]
    congr 1
    funext n
    exact exts_snoc s r _
theorem exts_ln : ∀ (sp : List (Int × Int)) (now l : List Int), l ∈ exts sp now → l.length = now.length + sp.length
  | [], now, l, h => by
    have : l ∈ [now] := h
    simp at this; subst this; simp
  | x :: r, now, l, h => by
    have h : l ∈ (rng x.1 x.2).flatMap (fun n => exts r (now ++ [n])) := h
    obtain ⟨n, _, hl⟩ := List.mem_flatMap.1 h
    have := exts_ln r _ _ hl
    simp at this ⊢; omega
abbrev loP (z : Z) (sp : List (Int × Int)) : PV := .sl z ((sp.map (·.1)).map ii)
abbrev hiP (z : Z) (sp : List (Int × Int)) : PV := .sl z ((sp.map (·.2)).map ii)
def outE (sp : List (Int × Int)) (i : Nat) : PV := .sl (if i = 0 then .f else .a) ((exts (sp.take i) []).map pvL)
def nxE (lo hi : Int) (L : List (List Int)) : List (List Int) := L.flatMap fun l => (rng lo hi).map fun n => l ++ [n]
theorem exts_ne : ∀ (sp : List (Int × Int)) (now : List Int), (∀ x ∈ sp, x.1 ≤ x.2) → exts sp now ≠ []
  | [], now, _ => by simp [exts]
  | x :: r, now, h => fun e => by
    have h1 := h x (by simp)
    obtain ⟨y, hy⟩ := List.exists_mem_of_ne_nil _ (exts_ne r (now ++ [x.1]) fun z hz => h z (by simp [hz]))
    have : y ∈ exts (x :: r) now := List.mem_flatMap.2 ⟨x.1, mem_rng.2 (by omega), hy⟩
    rw [e] at this
    cases this
theorem pvL_closed (l : List Int) : (pvL l).closed = true := by unfold pvL; exact closedL_is l
theorem closedL_pv (l : List (List Int)) : closedL (l.map pvL) = true := closedL_map pvL_closed l
theorem ltB_pv (m : Nat) (l : List (List Int)) : ltBL m (l.map pvL) = true := ltBL_map (fun x => by unfold pvL; rw [ltB_sl]; exact ltB_is m x) l
theorem all_mi2 (l : List Int) (p : PV → Bool) : (l.map ii).all p = l.all fun x => p (ii x) := by rw [List.all_map]; rfl
theorem all_t2 {α : Type} (l : List α) : (l.all fun _ => true) = true := by simp
theorem between_138 (za zb : Z) (sp : List (Int × Int)) (ha : za ≠ .n) (hb : zb ≠ .n) (hne : sp ≠ []) (hl : sp.length ≤ 5) (hs : ∀ x ∈ sp, -4 ≤ x.1 ∧ x.1 ≤ x.2 ∧ x.2 ≤ 4) :
    CallOk Tryz.prog 138 [loP za sp, hiP zb sp] [] (.ret (.sl .a ((exts sp []).map pvL))) [] := by
  refine CallOk.ofF hTT Tryz.func138 rfl rfl ?_
  have hc1 : (loP za sp).closed = true := closedL_is _
  have hc2 : (hiP zb sp).closed = true := closedL_is _
  have hEl : ∀ i, (exts (sp.take i) []).length ≤ 59049 := fun i => by
    have h1 := exts_len 9 (sp.take i) [] (fun x hx => by have := hs x (List.mem_of_mem_take hx); omega)
    have h2 : (sp.take i).length ≤ 5 := by simp; omega
    exact Nat.le_trans h1 (Nat.le_trans (Nat.pow_le_pow_right (by decide) h2) (by decide))
  repeat (first | (with_reducible (first | apply wA | apply wB | apply wC | apply wD | apply wE | apply wF | apply wG | apply wH | apply wI | apply wJ | apply wK | apply wL | apply wM | apply wN | apply wO | apply wP | apply wQ rfl | apply wR | apply wS | apply wT | apply wU)) | ((with_reducible (first | apply wV | apply wW | apply wX | (apply wY [] hTT cf0_ok noM_ok mixed; (focus kernel_rfl)))); (focus (simp only [Tryz.f138, go_sem]; with_reducible rfl))) | (with_reducible refine wZ hTT cf0_ok noM_ok ?_) | (with_reducible refine wa ?_; refine And.intro ?_ ?_; (focus kernel_rfl)))
  refine RunQ.keep [6, 5, 4, 0, 1] (by simp only [go_sem]; rfl) ?_
  refine RunQ.loop (fun i s' => s' = ⟨[(6, ii i), (5, outE sp i), (4, .sl .n []), (0, loP za sp), (1, hiP zb sp)], 48, []⟩) sp.length rfl ?_
  rintro i _ hi rfl
  by_cases hlt : i < sp.length
  · obtain ⟨⟨lo, hi'⟩, hx⟩ : ∃ x, sp[i]? = some x := ⟨_, List.getElem?_eq_getElem hlt⟩
    have hx1 : ((sp.map (·.1)).map ii)[i]? = some (ii lo) := by simp [hx]
    have hx2 : ((sp.map (·.2)).map ii)[i]? = some (ii hi') := by simp [hx]
    have hbd := hs _ (List.mem_of_getElem? hx)
    simp only at hbd
    have hlt' : (i : Int) < sp.length := by omega
    have e4 : IntKind.i64.wrap ((i : Int) + 1) = ((i + 1 : Nat) : Int) := wrap_id (by omega) (by omega)
    have hEi := hEl i
    have hlen : ∀ l ∈ exts (sp.take i) [], l.length = i := fun l h => by
      have := exts_ln _ _ _ h
      simp at this; omega
    have ho : outE sp i = .sl (if i = 0 then .f else .a) ((exts (sp.take i) []).map pvL) := rfl
    have hzi : (if i = 0 then Z.f else Z.a) ≠ .n := by split <;> simp
    rw [ho]
    have hsn : exts (sp.take (i + 1)) [] = nxE lo hi' (exts (sp.take i) []) := by rw [List.take_add_one, hx]; exact exts_snoc _ _ _
    generalize (if i = 0 then Z.f else Z.a) = zi at hzi ⊢
    generalize hE : exts (sp.take i) [] = E at *
    repeat (first | (with_reducible (first | apply wA | apply wB | apply wC | apply wD | apply wE | apply wF | apply wG | apply wH | apply wI | apply wJ | apply wK | apply wL | apply wM | apply wN | apply wO | apply wP | apply wQ rfl | apply wR | apply wS | apply wT | apply wU)) | ((with_reducible (first | apply wV | apply wW | apply wX | (apply wY [] hTT cf0_ok noM_ok mixed; (focus kernel_rfl)))); (focus (simp only [Tryz.f138, hlt', List.length_map, go_sem]; with_reducible rfl))) | (with_reducible refine wZ hTT cf0_ok noM_ok ?_) | (with_reducible refine wa ?_; refine And.intro ?_ ?_; (focus kernel_rfl)))
    refine RunQ.keep [8, 7, 6, 5, 4, 0, 1] (by simp only [go_sem]; rfl) ?_
    refine RunQ.nilRow 7 25 1 (by simp only [go_sem]) (by simp only [go_sem]; rfl) (by simp only [go_sem]; rfl) ?_
    refine RunQ.loop (fun k s' => s' = ⟨[(8, ii k), (7, .ms 0 (nxE lo hi' (E.take k)).length), (6, ii i), (5, .sl zi (E.map pvL)), (4, .sl .n []), (0, loP za sp), (1, hiP zb sp)], 48, [.row (decide ((nxE lo hi' (E.take k)).length = 0)) 25 1 ((nxE lo hi' (E.take k)).map pvL) false]⟩) E.length rfl ?_
    rintro k _ hk rfl
    have hnk : (nxE lo hi' (E.take k)).length ≤ 59049 * 9 := by
      have := flatMap_le (fun l => (rng lo hi').map fun n => l ++ [n]) 9 (E.take k) (fun l _ => by simp [rng]; omega)
      have h2 : (E.take k).length ≤ 59049 := by simp; omega
      exact Nat.le_trans this (Nat.mul_le_mul_right 9 h2)
    by_cases hkl : k < E.length
    · obtain ⟨l, hkx⟩ : ∃ l, E[k]? = some l := ⟨_, List.getElem?_eq_getElem hkl⟩
      have hkx' : (E.map pvL)[k]? = some (pvL l) := map_get hkx
      have hll := hlen l (List.mem_of_getElem? hkx)
      have hkl' : (k : Int) < E.length := by omega
      have e5 : IntKind.i64.wrap ((k : Int) + 1) = ((k + 1 : Nat) : Int) := wrap_id (by omega) (by omega)
      have hnx : nxE lo hi' (E.take (k + 1)) = nxE lo hi' (E.take k) ++ (rng lo hi').map fun n => l ++ [n] := by
        unfold nxE
        rw [List.take_add_one, hkx]
        simp
      generalize hN : nxE lo hi' (E.take k) = N at *
      repeat (first | (with_reducible (first | apply wA | apply wB | apply wC | apply wD | apply wE | apply wF | apply wG | apply wH | apply wI | apply wJ | apply wK | apply wL | apply wM | apply wN | apply wO | apply wP | apply wQ rfl | apply wR | apply wS | apply wT | apply wU)) | ((with_reducible (first | apply wV | apply wW | apply wX | (apply wY [] hTT cf0_ok noM_ok mixed; (focus kernel_rfl)))); (focus (simp only [Tryz.f138, hkl', hx1, ha, hlt', List.length_map, go_sem]; with_reducible rfl))) | (with_reducible refine wZ hTT cf0_ok noM_ok ?_) | (with_reducible refine wa ?_; refine And.intro ?_ ?_; (focus kernel_rfl)))
      refine RunQ.keep [9, 8, 7, 6, 5, 4, 0, 1] (by simp only [go_sem]; rfl) ?_
      have hNlen : N.length ≤ 531441 := hnk
      refine RunQ.loop (fun t s' => s' = ⟨[(9, ii (lo + (t : Int))), (8, ii k), (7, .ms 0 (N ++ ((rng lo hi').take t).map fun n => l ++ [n]).length), (6, ii i), (5, .sl zi (E.map pvL)), (4, .sl .n []), (0, loP za sp), (1, hiP zb sp)], 48, [.row (decide ((N ++ ((rng lo hi').take t).map fun n => l ++ [n]).length = 0)) 25 1 ((N ++ ((rng lo hi').take t).map fun n => l ++ [n]).map pvL) false]⟩) (hi' + 1 - lo).toNat (by simp) ?_
      rintro t _ ht rfl
      by_cases htl : t < (hi' + 1 - lo).toNat
      · have hle : lo + (t : Int) ≤ hi' := by omega
        have e6 : IntKind.i64.wrap (lo + (t : Int) + 1) = lo + ((t + 1 : Nat) : Int) := by rw [wrap_id (by omega) (by omega)]; omega
        have htk : (rng lo hi').take (t + 1) = (rng lo hi').take t ++ [lo + (t : Int)] := by
          rw [List.take_add_one]
          congr 1
          simp [rng, htl]
        have hpv : pvL (l ++ [lo + (t : Int)]) = .sl .a (l.map ii ++ [ii (lo + (t : Int))]) := by unfold pvL; cases l <;> simp
        generalize hM : (N ++ ((rng lo hi').take t).map fun n => l ++ [n]) = M
        have hM2 : (N ++ ((rng lo hi').take (t + 1)).map fun n => l ++ [n]) = M ++ [l ++ [lo + (t : Int)]] := by rw [htk, ← hM]; simp
        have hMl : M.length ≤ 531450 := by
          rw [← hM]
          have : ((rng lo hi').take t).length ≤ 9 := by simp [rng]; omega
          simp only [List.length_append, List.length_map]
          omega
        have r1 : (M.length + 1) * 24 ≤ 140737488355328 := by omega
        have r2 : M.length + 1 ≤ maxLen := by unfold maxLen; omega
        have r3 : (l.length + 1) * 8 ≤ 140737488355328 := by omega
        have r4 : l.length + 1 ≤ maxLen := by unfold maxLen; omega
        have r5 : l.length * 8 ≤ 140737488355328 := by omega
        have r6 : l.length ≤ maxLen := by unfold maxLen; omega
        by_cases hl0 : l = []
        · subst hl0
          repeat (first | (with_reducible (first | apply wA | ((fail_if_success (refine RunQ.seq (x := .region 12 _ _) ?_)); (apply wB)) | apply wC | apply wD | apply wE | apply wF | apply wG | apply wH | apply wI | apply wJ | apply wK | apply wL | apply wM | apply wN | apply wO | apply wP | apply wQ rfl | apply wR | apply wS | apply wT | apply wU)) | ((with_reducible (first | apply wV | apply wW | apply wX | (apply wY [] hTT cf0_ok noM_ok mixed; (focus kernel_rfl)))); (focus (simp only [Tryz.f138, hx2, hle, hb, hlt', List.length_map, go_sem]; with_reducible rfl))) | ((fail_if_success (with_reducible show RunQ _ (.region 12 _ _) _ _)); (with_reducible refine wZ hTT cf0_ok noM_ok ?_)) | (with_reducible refine wa ?_; refine And.intro ?_ ?_; (focus kernel_rfl)))
          refine RunQ.regG hTT cf0_ok noM_ok ?_
          iterate 9 (apply RegG.step; (focus (simp only [Tryz.f138, hkx', hkl', hzi, pvL, r1, r2, List.length_map, go_sem]; rfl)))
          refine RegG.freeze 43 2 (es := [ii (lo + (t : Int))]) (by simp only [go_sem]) rfl rfl rfl (by simp only [go_sem]; rfl) (by simp only [go_sem]; rfl) ?_
          iterate 3 (apply RegG.step; (focus (simp only [Tryz.f138, r1, r2, List.length_map, go_sem]; rfl)))
          refine RegG.nil ?_
          repeat (first | (with_reducible (first | apply wA | apply wB | apply wC | apply wD | apply wE | apply wF | apply wG | apply wH | apply wI | apply wJ | apply wK | apply wL | apply wM | apply wN | apply wO | apply wP | apply wQ rfl | apply wR | apply wS | apply wT | apply wU)) | ((with_reducible (first | apply wV | apply wW | apply wX | (apply wY [] hTT cf0_ok noM_ok mixed; (focus kernel_rfl)))); (focus (simp only [Tryz.f138, e6, go_sem]; with_reducible rfl))) | (with_reducible refine wZ hTT cf0_ok noM_ok ?_) | (with_reducible refine wa ?_; refine And.intro ?_ ?_; (focus kernel_rfl)))
          refine roundQ.t 1 [9, 8, 7, 6, 5, 4, 0, 1] htl (by simp only [ltB_is, ltB_pv, go_sem]) (by rw [hM2]; simp only [pvL, List.map_append, List.isEmpty_cons, go_sem])
        · have hpl : pvL l = .sl .a (l.map ii) := by unfold pvL; cases l with
            | nil => exact absurd rfl hl0
            | cons a r => rfl
          have hie : (l.map ii).isEmpty = false := by cases l with
            | nil => exact absurd rfl hl0
            | cons a r => rfl
          repeat (first | (with_reducible (first | apply wA | ((fail_if_success (refine RunQ.seq (x := .region 12 _ _) ?_)); (apply wB)) | apply wC | apply wD | apply wE | apply wF | apply wG | apply wH | apply wI | apply wJ | apply wK | apply wL | apply wM | apply wN | apply wO | apply wP | apply wQ rfl | apply wR | apply wS | apply wT | apply wU)) | ((with_reducible (first | apply wV | apply wW | apply wX | (apply wY [] hTT cf0_ok noM_ok mixed; (focus kernel_rfl)))); (focus (simp only [Tryz.f138, hx2, hle, hb, hlt', List.length_map, go_sem]; with_reducible rfl))) | ((fail_if_success (with_reducible show RunQ _ (.region 12 _ _) _ _)); (with_reducible refine wZ hTT cf0_ok noM_ok ?_)) | (with_reducible refine wa ?_; refine And.intro ?_ ?_; (focus kernel_rfl)))
          refine RunQ.regG hTT cf0_ok noM_ok ?_
          iterate 9 (apply RegG.step; (focus (simp only [Tryz.f138, hkx', hkl', hzi, hpl, hie, all_mi2, all_t2, r3, r4, r5, r6, List.length_map, go_sem]; rfl)))
          refine RegG.freeze 43 1 (es := l.map ii ++ [ii (lo + (t : Int))]) (by simp only [go_sem]; rfl) rfl (by simp) (by rw [closedL_append, closedL_is]; rfl) (by simp only [go_sem]; rfl) (by simp only [go_sem]; rfl) ?_
          iterate 3 (apply RegG.step; (focus (simp only [Tryz.f138, r1, r2, List.length_map, go_sem]; rfl)))
          refine RegG.nil ?_
          repeat (first | (with_reducible (first | apply wA | apply wB | apply wC | apply wD | apply wE | apply wF | apply wG | apply wH | apply wI | apply wJ | apply wK | apply wL | apply wM | apply wN | apply wO | apply wP | apply wQ rfl | apply wR | apply wS | apply wT | apply wU)) | ((with_reducible (first | apply wV | apply wW | apply wX | (apply wY [] hTT cf0_ok noM_ok mixed; (focus kernel_rfl)))); (focus (simp only [Tryz.f138, e6, go_sem]; with_reducible rfl))) | (with_reducible refine wZ hTT cf0_ok noM_ok ?_) | (with_reducible refine wa ?_; refine And.intro ?_ ?_; (focus kernel_rfl)))
          refine roundQ.t 1 [9, 8, 7, 6, 5, 4, 0, 1] htl (by simp only [ltB_is, ltB_pv, go_sem]) (by rw [hM2]; simp only [hpv, List.map_append, go_sem])
      · have hle : ¬ lo + (t : Int) ≤ hi' := by omega
        obtain rfl : t = (hi' + 1 - lo).toNat := by omega
        have htk : (rng lo hi').take (hi' + 1 - lo).toNat = rng lo hi' := List.take_of_length_le (by simp [rng])
        rw [htk, ← hnx]
        generalize hM : nxE lo hi' (E.take (k + 1)) = M
        repeat (first | (with_reducible (first | apply wA | apply wB | apply wC | apply wD | apply wE | apply wF | apply wG | apply wH | apply wI | apply wJ | apply wK | apply wL | apply wM | apply wN | apply wO | apply wP | apply wQ rfl | apply wR | apply wS | apply wT | apply wU)) | ((with_reducible (first | apply wV | apply wW | apply wX | (apply wY [] hTT cf0_ok noM_ok mixed; (focus kernel_rfl)))); (focus (simp only [Tryz.f138, hx2, hle, hb, hlt', e5, List.length_map, go_sem]; with_reducible rfl))) | (with_reducible refine wZ hTT cf0_ok noM_ok ?_) | (with_reducible refine wa ?_; refine And.intro ?_ ?_; (focus kernel_rfl)))
        refine roundQ.t 1 [8, 7, 6, 5, 4, 0, 1] hkl (by simp only [ltB_is, ltB_pv, go_sem]) (by rw [hM]; simp only [go_sem])
    · have hkl' : ¬ (k : Int) < E.length := by omega
      obtain rfl : k = E.length := by omega
      have hEt : E.take E.length = E := List.take_length
      rw [hEt]
      have hM0 : nxE lo hi' E ≠ [] := by rw [← hsn]; exact exts_ne _ _ fun x hx => (hs x (List.mem_of_mem_take hx)).2.1
      have ho2 : outE sp (i + 1) = .sl .a ((nxE lo hi' E).map pvL) := by unfold outE; rw [if_neg (by omega), hsn]
      generalize hM : nxE lo hi' E = M at *
      have hz0 : decide (M.length = 0) = false := by simp [hM0]
      rw [hz0]
      repeat (first | (with_reducible (first | apply wA | ((fail_if_success (refine RunQ.seq (x := .region 4 _ _) ?_)); (apply wB)) | apply wC | apply wD | apply wE | apply wF | apply wG | apply wH | apply wI | apply wJ | apply wK | apply wL | apply wM | apply wN | apply wO | apply wP | apply wQ rfl | apply wR | apply wS | apply wT | apply wU)) | ((with_reducible (first | apply wV | apply wW | apply wX | (apply wY [] hTT cf0_ok noM_ok mixed; (focus kernel_rfl)))); (focus (simp only [Tryz.f138, hkl', hlt', List.length_map, go_sem]; with_reducible rfl))) | ((fail_if_success (with_reducible show RunQ _ (.region 4 _ _) _ _)); (with_reducible refine wZ hTT cf0_ok noM_ok ?_)) | (with_reducible refine wa ?_; refine And.intro ?_ ?_; (focus kernel_rfl)))
      refine RunQ.freeze 5 0 (es := M.map pvL) (by simp only [go_sem]; rfl) rfl (by simp) (closedL_pv M) (by simp only [go_sem]; rfl) (by simp only [go_sem]; rfl) ?_
      repeat (first | (with_reducible (first | apply wA | apply wB | apply wC | apply wD | apply wE | apply wF | apply wG | apply wH | apply wI | apply wJ | apply wK | apply wL | apply wM | apply wN | apply wO | apply wP | apply wQ rfl | apply wR | apply wS | apply wT | apply wU)) | ((with_reducible (first | apply wV | apply wW | apply wX | (apply wY [] hTT cf0_ok noM_ok mixed; (focus kernel_rfl)))); (focus (simp only [Tryz.f138, e4, go_sem]; with_reducible rfl))) | (with_reducible refine wZ hTT cf0_ok noM_ok ?_) | (with_reducible refine wa ?_; refine And.intro ?_ ?_; (focus kernel_rfl)))
      refine roundQ.t 0 [6, 5, 4, 0, 1] hlt (by simp only [ltB_is, ltB_pv, go_sem]) (by rw [ho2]; simp only [go_sem])
  · have hlt' : ¬ (i : Int) < sp.length := by omega
    obtain rfl : i = sp.length := by omega
    have ho : outE sp sp.length = .sl .a ((exts sp []).map pvL) := by
      unfold outE
      rw [if_neg (fun e => hne (List.length_eq_zero_iff.1 e)), List.take_length]
    rw [ho]
    repeat (first | (with_reducible (first | apply wA | apply wB | apply wC | apply wD | apply wE | apply wF | apply wG | apply wH | apply wI | apply wJ | apply wK | apply wL | apply wM | apply wN | apply wO | apply wP | apply wQ rfl | apply wR | apply wS | apply wT | apply wU)) | ((with_reducible (first | apply wV | apply wW | apply wX | (apply wY [] hTT cf0_ok noM_ok mixed; (focus kernel_rfl)))); (focus (simp only [Tryz.f138, hlt', List.length_map, go_sem]; with_reducible rfl))) | (with_reducible refine wZ hTT cf0_ok noM_ok ?_) | (with_reducible refine wa ?_; refine And.intro ?_ ?_; (focus kernel_rfl)))
    exact ⟨rfl, rfl, _, rfl, leave_closed (closedL_pv _)⟩
end Go.Pv
namespace Go.Pv
open Go Go.RowKit Go.Proofs
set_option maxRecDepth 10000
set_option maxHeartbeats 4000000
end Go.Pv
namespace Go.Pv
open Go Go.RowKit Go.Proofs
set_option maxRecDepth 10000
set_option maxHeartbeats 4000000
theorem step_120 (d : Int) (h0 : 0 ≤ d) (h8 : d < 8) : CallOk Tryz.prog 120 [ii d] [] (.ret (encPl (stepG d))) [] := by
  rcases (show d = 0 ∨ d = 1 ∨ d = 2 ∨ d = 3 ∨ d = 4 ∨ d = 5 ∨ d = 6 ∨ d = 7 by omega) with rfl | rfl | rfl | rfl | rfl | rfl | rfl | rfl
  all_goals
    exact (ev_call hTT noM_ok mixed named prim0_ok (k := 60) (by kernel_rfl)).2.1
theorem c120_ok : ConOk Tryz.prog 120 c131 := ConOk.of0 (ent Tryz.func120 rfl) fun args sg r sg' h => by
  unfold c131 at h
  split at h <;> try (cases h; done)
  split at h <;> cases h
  rename_i d hd
  exact ⟨_, rfl, rfl, rfl, step_120 d hd.1 hd.2⟩
def cfRe : CallF := cfAdd cf0 120 c131
theorem cfRe_ok : CallFOk Tryz.prog cfRe := cfAdd_ok cf0_ok c120_ok
/-- Turns by eighths. -/
def em8 (w : Int) : PV := ii (w % 8)
theorem ltB_em8 (m : Nat) (l : List Int) : ltBL m (l.map em8) = true := ltBL_map (fun _ => rfl) l
theorem tmod8' (w t : Int) (hw : -1000 ≤ w) (ht : -4 ≤ t) : (w % 8 + t + 8).tmod 8 = (w + t) % 8 := by
  rw [Int.tmod_eq_emod_of_nonneg (by omega)]
  omega
theorem ref_facts {a b w t l : Int} (ha : -1000 ≤ a ∧ a ≤ 1000) (hb : -1000 ≤ b ∧ b ≤ 1000) (hw : -1000 ≤ w ∧ w ≤ 1000) (ht : -4 ≤ t ∧ t ≤ 4) (h1 : 1 ≤ l) (h2 : l ≤ 20) :
    IntKind.i64.wrap (w % 8 + t) = w % 8 + t ∧ IntKind.i64.wrap (w % 8 + t + 8) = w % 8 + t + 8 ∧ (w % 8 + t + 8).tmod 8 = (w + t) % 8 ∧ 0 ≤ (w + t) % 8 ∧ (w + t) % 8 < 8 ∧
    IntKind.i64.wrap (l * (stepG ((w + t) % 8)).1) = l * (stepG ((w + t) % 8)).1 ∧ IntKind.i64.wrap (l * (stepG ((w + t) % 8)).2) = l * (stepG ((w + t) % 8)).2 ∧
    IntKind.i64.wrap (a + l * (stepG ((w + t) % 8)).1) = a + l * (stepG ((w + t) % 8)).1 ∧ IntKind.i64.wrap (b + l * (stepG ((w + t) % 8)).2) = b + l * (stepG ((w + t) % 8)).2 ∧
    (-140 ≤ l * (stepG ((w + t) % 8)).1 ∧ l * (stepG ((w + t) % 8)).1 ≤ 140) ∧ (-140 ≤ l * (stepG ((w + t) % 8)).2 ∧ l * (stepG ((w + t) % 8)).2 ≤ 140) := by
  obtain ⟨v1, v2⟩ := step_vals ((w + t) % 8)
  have m1 := mul_step (l := l) (by omega) (by omega) v1
  have m2 := mul_step (l := l) (by omega) (by omega) v2
  exact ⟨wrap_id (by omega) (by omega), wrap_id (by omega) (by omega), tmod8' w t (by omega) (by omega), by omega, by omega, wrap_id (by omega) (by omega), wrap_id (by omega) (by omega),
    wrap_id (by omega) (by omega), wrap_id (by omega) (by omega), m1, m2⟩
theorem refEnds_69 (s : Int) (z zp : Z) (ls : List Lb) (ps : List Int) (hz : z = .n → ls = []) (hp : zp = .n → ps = []) (hf : figB s ls = true) (hpo : poseG ls ps = true) :
    CallOk Tryz.prog 69 [.agg [ii s, .sl z (ls.map encLb)], .sl zp (ps.map ii)] [] (.ret (.sl .a ((ends s ls ps).map encPl))) [] := by
  refine CallOk.ofF hTT Tryz.func69 rfl rfl ?_
  obtain ⟨s0, s7, l1, l5, hlb⟩ := fig_limbs hf
  obtain ⟨hl, hpa⟩ := pose_at hpo
  repeat (first | (with_reducible (first | apply wA | apply wB | apply wC | apply wD | apply wE | apply wF | apply wG | apply wH | apply wI | apply wJ | apply wK | apply wL | apply wM | apply wN | apply wO | apply wP | apply wQ rfl | apply wR | apply wS | apply wT | apply wU)) | ((with_reducible (first | apply wV | apply wW | apply wX | (apply wY [] hTT cfRe_ok noM_ok mixed; (focus kernel_rfl)))); (focus (simp only [Tryz.f69, cfRe, go_sem]; rfl))) | (with_reducible refine wZ hTT cfRe_ok noM_ok ?_) | (with_reducible refine wa ?_; refine And.intro ?_ ?_; (focus kernel_rfl)))
  refine RunQ.keep [7, 6, 5, 2, 1] (by simp only [go_sem]; rfl) ?_
  refine RunQ.nilRow 5 36 2 (by simp only [go_sem]) (by simp only [go_sem]; rfl) (by simp only [go_sem]; rfl) ?_
  refine RunQ.nilRow 6 3 1 (by simp only [go_sem]) (by simp only [go_sem]; rfl) (by simp only [go_sem]; rfl) ?_
  refine RunQ.loop (fun i s' => ∃ (out : List Pl) (tr : List Int), endsG s ls ps [] [] = endsG s (ls.drop i) (ps.drop i) out tr ∧ out.length = i ∧ tr.length = i ∧ (∀ p ∈ out, bdP i p) ∧ (∀ t ∈ tr, -(4 * (i : Int)) ≤ t ∧ t ≤ 7 + 4 * (i : Int)) ∧
    s' = ⟨[(7, ii i), (6, .ms 2 i), (5, .ms 1 i), (2, .bp 0 0), (1, .sl zp (ps.map ii))], 75, [.var [ii s, .sl z (ls.map encLb)] false, .row (decide (i = 0)) 36 2 (out.map encPl) false, .row (decide (i = 0)) 3 1 (tr.map em8) false]⟩)
    ls.length ⟨[], [], rfl, rfl, rfl, (fun p h => by cases h), (fun t h => by cases h), rfl⟩ ?_
  rintro i _ hi ⟨out, tr, hm, ho, ht, hbo, hbt, rfl⟩
  by_cases hlt : i < ls.length
  · obtain ⟨x, hx⟩ : ∃ x, ls[i]? = some x := ⟨_, List.getElem?_eq_getElem hlt⟩
    obtain ⟨t, htt⟩ : ∃ t, ps[i]? = some t := ⟨_, List.getElem?_eq_getElem (by omega)⟩
    have hx' : (ls.map encLb)[i]? = some (.agg [ii x.p, ii x.l, ii x.lo, ii x.hi, ii x.w]) := map_get hx
    have ht' : (ps.map ii)[i]? = some (ii t) := map_get htt
    have hlt' : (i : Int) < ls.length := by omega
    have hz' : z ≠ .n := fun e => by rw [hz e] at hlt; simp at hlt
    have hzp' : zp ≠ .n := fun e => by rw [hp e] at hl; simp at hl; omega
    have hb := lb_d (hlb i x hx)
    have htb := hpa i x t hx htt
    have e4 : IntKind.i64.wrap ((i : Int) + 1) = ((i + 1 : Nat) : Int) := wrap_id (by omega) (by omega)
    have r1 : (i + 1) * 8 ≤ 140737488355328 := by omega
    have r2 : i + 1 ≤ maxLen := by unfold maxLen; omega
    have r3 : (i + 1) * 16 ≤ 140737488355328 := by omega
    have hd1 : decide (i + 1 = 0) = false := by simp
    have fin : ∀ (a b w : Int), fromG s x out tr = ((a, b), w) → (-(140 * (i : Int)) ≤ a ∧ a ≤ 140 * (i : Int) ∧ -(140 * (i : Int)) ≤ b ∧ b ≤ 140 * (i : Int)) → (-(4 * (i : Int)) ≤ w ∧ w ≤ 7 + 4 * (i : Int)) →
        turnG s x out tr t = w + t ∧ endG s x out tr t = (a + x.l * (stepG ((w + t) % 8)).1, b + x.l * (stepG ((w + t) % 8)).2) ∧
        endsG s ls ps [] [] = endsG s (ls.drop (i + 1)) (ps.drop (i + 1)) (out ++ [endG s x out tr t]) (tr ++ [turnG s x out tr t]) ∧ (out ++ [endG s x out tr t]).length = i + 1 ∧ (tr ++ [turnG s x out tr t]).length = i + 1 ∧
        (∀ p ∈ out ++ [endG s x out tr t], bdP (i + 1) p) ∧ (∀ t' ∈ tr ++ [turnG s x out tr t], -(4 * ((i + 1 : Nat) : Int)) ≤ t' ∧ t' ≤ 7 + 4 * ((i + 1 : Nat) : Int)) := by
      intro a b w hfr hab hw
      have htn : turnG s x out tr t = w + t := by unfold turnG; rw [hfr]
      have hen : endG s x out tr t = (a + x.l * (stepG ((w + t) % 8)).1, b + x.l * (stepG ((w + t) % 8)).2) := by unfold endG; rw [htn, hfr]
      obtain ⟨_, _, _, _, _, _, _, _, _, m1, m2⟩ := ref_facts (a := a) (b := b) (w := w) (t := t) (l := x.l) (by omega) (by omega) (by omega) (by omega) (by omega) (by omega)
      refine ⟨htn, hen, ?_, by simp [ho], by simp [ht], fun p h => ?_, fun t' h => ?_⟩
      · rw [hm, drop_get hx, drop_get htt]; rfl
      · rcases List.mem_append.1 h with h | h
        · have := hbo p h; unfold bdP at *; omega
        · simp at h; subst h; rw [hen]; unfold bdP; simp only; omega
      · rcases List.mem_append.1 h with h | h
        · have := hbt t' h; omega
        · simp at h; subst h; rw [htn]; omega
    by_cases hp0 : 0 ≤ x.p
    · have hpi : x.p.toNat < i := by omega
      obtain ⟨q, hq⟩ : ∃ q, out[x.p.toNat]? = some q := ⟨_, List.getElem?_eq_getElem (by omega)⟩
      obtain ⟨w, hw⟩ : ∃ w, tr[x.p.toNat]? = some w := ⟨_, List.getElem?_eq_getElem (by omega)⟩
      have hq' : (out.map encPl)[x.p.toNat]? = some (.agg [ii q.1, ii q.2]) := map_get hq
      have hw' : (tr.map em8)[x.p.toNat]? = some (ii (w % 8)) := map_get hw
      have hfr : fromG s x out tr = ((q.1, q.2), w) := by unfold fromG; rw [if_pos hp0, List.getD, hq, List.getD, hw]; rfl
      have hqb := hbo q (List.mem_of_getElem? hq)
      have hwb := hbt w (List.mem_of_getElem? hw)
      have hpi' : x.p < (i : Int) := by omega
      have hi0 : ¬ i = 0 := by omega
      obtain ⟨htn, hen, g1, g2, g3, g4, g5⟩ := fin q.1 q.2 w hfr hqb hwb
      unfold bdP at hqb
      obtain ⟨e5, e6, e7, e8, e9, e10, e11, e12, e13, _, _⟩ := ref_facts (a := q.1) (b := q.2) (w := w) (t := t) (l := x.l) (by omega) (by omega) (by omega) (by omega) (by omega) (by omega)
      repeat (first | (with_reducible (first | apply wA | apply wB | apply wC | apply wD | apply wE | apply wF | apply wG | apply wH | apply wI | apply wJ | apply wK | apply wL | apply wM | apply wN | apply wO | apply wP | apply wQ rfl | apply wR | apply wS | apply wT | apply wU)) | ((with_reducible (first | apply wV | apply wW | apply wX | (apply wY [] hTT cfRe_ok noM_ok mixed; (focus kernel_rfl)))); (focus (simp only [Tryz.f69, cfRe, c131, hx', ht', hlt', hz', hzp', hp0, hq', hw', hpi', hi0, e4, r1, r2, r3, ho, ht, ge_iff_le, e5, e6, e7, e8, e9, encPl, e10, e11, e12, e13, go_sem]; rfl))) | (with_reducible refine wZ hTT cfRe_ok noM_ok ?_) | (with_reducible refine wa ?_; refine And.intro ?_ ?_; (focus kernel_rfl)))
      refine roundQ.t 3 [7, 6, 5, 2, 1] hlt (by simp only [ltB_pls, ltB_em8, ltB_lbs, go_sem]) ⟨_, _, g1, g2, g3, g4, g5, by simp only [hd1, hen, htn, List.map_append, encPl, em8, go_sem]⟩
    · have hfr : fromG s x out tr = ((0, 0), s) := if_neg hp0
      have hs8 : s % 8 = s := by omega
      obtain ⟨htn, hen, g1, g2, g3, g4, g5⟩ := fin 0 0 s hfr (by omega) (by omega)
      obtain ⟨e5, e6, e7, e8, e9, e10, e11, e12, e13, _, _⟩ := ref_facts (a := 0) (b := 0) (w := s) (t := t) (l := x.l) (by omega) (by omega) (by omega) (by omega) (by omega) (by omega)
      rw [hs8] at e5 e6 e7
      repeat (first | (with_reducible (first | apply wA | apply wB | apply wC | apply wD | apply wE | apply wF | apply wG | apply wH | apply wI | apply wJ | apply wK | apply wL | apply wM | apply wN | apply wO | apply wP | apply wQ rfl | apply wR | apply wS | apply wT | apply wU)) | ((with_reducible (first | apply wV | apply wW | apply wX | (apply wY [] hTT cfRe_ok noM_ok mixed; (focus kernel_rfl)))); (focus (simp only [Tryz.f69, cfRe, c131, hx', ht', hlt', hz', hzp', hp0, e4, r1, r2, r3, ho, ht, ge_iff_le, e5, e6, e7, e8, e9, encPl, e10, e11, e12, e13, go_sem]; rfl))) | (with_reducible refine wZ hTT cfRe_ok noM_ok ?_) | (with_reducible refine wa ?_; refine And.intro ?_ ?_; (focus kernel_rfl)))
      refine roundQ.t 3 [7, 6, 5, 2, 1] hlt (by simp only [ltB_pls, ltB_em8, ltB_lbs, go_sem]) ⟨_, _, g1, g2, g3, g4, g5, by simp only [hd1, hen, htn, List.map_append, encPl, em8, go_sem]⟩
  · have hlt' : ¬ (i : Int) < ls.length := by omega
    have hi0 : ¬ i = 0 := by omega
    repeat (first | (with_reducible (first | apply wA | apply wB | apply wC | apply wD | apply wE | apply wF | apply wG | apply wH | apply wI | apply wJ | apply wK | apply wL | apply wM | apply wN | apply wO | apply wP | apply wQ rfl | apply wR | apply wS | apply wT | apply wU)) | ((with_reducible (first | apply wV | apply wW | apply wX | (apply wY [] hTT cfRe_ok noM_ok mixed; (focus kernel_rfl)))); (focus (simp only [Tryz.f69, hlt', go_sem]; rfl))) | (with_reducible refine wZ hTT cfRe_ok noM_ok ?_) | (with_reducible refine wa ?_; refine And.intro ?_ ?_; (focus kernel_rfl)))
    refine ⟨rfl, rfl, _, rfl, ?_⟩
    have hen : ends s ls ps = out := by unfold ends; rw [hm, List.drop_eq_nil_of_le (by omega)]; rfl
    rw [hen]
    have := leave_row (sg := [.var [ii s, .sl z (ls.map encLb)] false, .row (decide (i = 0)) 36 2 (out.map encPl) false, .row (decide (i = 0)) 3 1 (tr.map em8) false]) (id := 1) (m := i) rfl (closedL_map (fun _ => rfl) out) (by simp [ho])
    simpa [hi0, tup] using this
theorem c69_ok : ConOk Tryz.prog 69 c87 := ConOk.of0 (ent Tryz.func69 rfl) fun args sg r sg' h => by
  unfold c87 at h
  split at h <;> try (cases h; done)
  split at h <;> try (cases h; done)
  rename_i h1 h2
  split at h <;> cases h
  rename_i hc
  obtain ⟨z, rfl, hz⟩ := decFig_inv h1
  obtain ⟨zp, rfl, hzp⟩ := decIs1_inv h2
  exact ⟨_, rfl, rfl, by rw [ltBL_cons, ltB_fig, ltBL_cons, ltB_isl]; rfl, refEnds_69 _ _ _ _ _ hz hzp hc.1 hc.2⟩
end Go.Pv
namespace Go.Pv
open Go Go.RowKit Go.Proofs
set_option maxRecDepth 10000
set_option maxHeartbeats 4000000
theorem Same_49 (za zb : Z) (a b : List Int) (ha : za = .n → a = []) (hb : zb = .n → b = []) (hs : a.length ≤ maxLen) : CallOk Tryz.prog 49 [.sl za (a.map ii), .sl zb (b.map ii)] [] (.ret (.bool (decide (a = b)))) [] := by
  refine CallOk.of0 hTT Tryz.func49 rfl rfl ?_
  unfold maxLen at hs
  by_cases hl : a.length = b.length
  · repeat (first | (with_reducible (first | apply wA | apply wB | apply wC | apply wD | apply wE | apply wF | apply wG | apply wH | apply wI | apply wJ | apply wK | apply wL | apply wM | apply wN | apply wO | apply wP | apply wQ rfl | apply wR | apply wS | apply wT | apply wU)) | ((with_reducible (first | apply wV | apply wW | apply wX | (apply wY [] hTT cf0_ok noM_ok mixed; (focus kernel_rfl)))); (focus (simp only [Tryz.f49, hl, go_sem]; with_reducible rfl))) | (with_reducible refine wZ hTT cf0_ok noM_ok ?_) | (with_reducible refine wa ?_; refine And.intro ?_ ?_; (focus kernel_rfl)))
    refine RunQ.keep [5, 4, 1, 0] (by simp only [go_sem]; rfl) ?_
    refine RunQ.loop (fun i s' => decide (a = b) = decide (a.drop i = b.drop i) ∧ s' = ⟨[(5, ii i), (4, .bool false), (0, .sl za (a.map ii)), (1, .sl zb (b.map ii))], 26, []⟩) b.length ⟨rfl, rfl⟩ ?_
    rintro i _ hi ⟨hm, rfl⟩
    by_cases hlt : i < b.length
    · obtain ⟨x, hx⟩ : ∃ x, a[i]? = some x := ⟨_, List.getElem?_eq_getElem (by omega)⟩
      obtain ⟨y, hy⟩ : ∃ y, b[i]? = some y := ⟨_, List.getElem?_eq_getElem hlt⟩
      have hx' : (a.map ii)[i]? = some (ii x) := map_get hx
      have hy' : (b.map ii)[i]? = some (ii y) := map_get hy
      have hlt' : (i : Int) < b.length := by omega
      have hza' : za ≠ .n := fun e => by rw [ha e] at hl; simp at hl; omega
      have hzb' : zb ≠ .n := fun e => by rw [hb e] at hlt; simp at hlt
      have e4 : IntKind.i64.wrap ((i : Int) + 1) = ((i + 1 : Nat) : Int) := wrap_id (by omega) (by omega)
      by_cases hxy : x = y
      · have h1 : (x != y) = false := by simp [hxy]
        repeat (first | (with_reducible (first | apply wA | apply wB | apply wC | apply wD | apply wE | apply wF | apply wG | apply wH | apply wI | apply wJ | apply wK | apply wL | apply wM | apply wN | apply wO | apply wP | apply wQ rfl | apply wR | apply wS | apply wT | apply wU)) | ((with_reducible (first | apply wV | apply wW | apply wX | (apply wY [] hTT cf0_ok noM_ok mixed; (focus kernel_rfl)))); (focus (simp only [Tryz.f49, hl, hx', hy', hlt', hza', hzb', e4, h1, go_sem]; with_reducible rfl))) | (with_reducible refine wZ hTT cf0_ok noM_ok ?_) | (with_reducible refine wa ?_; refine And.intro ?_ ?_; (focus kernel_rfl)))
        refine roundQ.t 0 [5, 4, 0, 1] hlt (by simp only [ltB_is, go_sem]) ⟨by rw [hm, decide_step hx hy, decide_eq_true hxy]; rfl, by simp only [go_sem]⟩
      · have h1 : (x != y) = true := by simp [hxy]
        repeat (first | (with_reducible (first | apply wA | apply wB | apply wC | apply wD | apply wE | apply wF | apply wG | apply wH | apply wI | apply wJ | apply wK | apply wL | apply wM | apply wN | apply wO | apply wP | apply wQ rfl | apply wR | apply wS | apply wT | apply wU)) | ((with_reducible (first | apply wV | apply wW | apply wX | (apply wY [] hTT cf0_ok noM_ok mixed; (focus kernel_rfl)))); (focus (simp only [Tryz.f49, hl, hx', hy', hlt', hza', hzb', e4, h1, go_sem]; with_reducible rfl))) | (with_reducible refine wZ hTT cf0_ok noM_ok ?_) | (with_reducible refine wa ?_; refine And.intro ?_ ?_; (focus kernel_rfl)))
        refine ⟨rfl, rfl, _, rfl, ?_⟩
        rw [hm, decide_step hx hy, decide_eq_false hxy]; rfl
    · have hlt' : ¬ (i : Int) < b.length := by omega
      repeat (first | (with_reducible (first | apply wA | apply wB | apply wC | apply wD | apply wE | apply wF | apply wG | apply wH | apply wI | apply wJ | apply wK | apply wL | apply wM | apply wN | apply wO | apply wP | apply wQ rfl | apply wR | apply wS | apply wT | apply wU)) | ((with_reducible (first | apply wV | apply wW | apply wX | (apply wY [] hTT cf0_ok noM_ok mixed; (focus kernel_rfl)))); (focus (simp only [Tryz.f49, hl, hlt', go_sem]; with_reducible rfl))) | (with_reducible refine wZ hTT cf0_ok noM_ok ?_) | (with_reducible refine wa ?_; refine And.intro ?_ ?_; (focus kernel_rfl)))
      refine ⟨rfl, rfl, _, rfl, ?_⟩
      rw [hm, List.drop_eq_nil_of_le (by omega), List.drop_eq_nil_of_le (by omega)]; rfl
  · have hl' : ((a.length : Int) != (b.length : Int)) = true := bne_true (by omega)
    repeat (first | (with_reducible (first | apply wA | apply wB | apply wC | apply wD | apply wE | apply wF | apply wG | apply wH | apply wI | apply wJ | apply wK | apply wL | apply wM | apply wN | apply wO | apply wP | apply wQ rfl | apply wR | apply wS | apply wT | apply wU)) | ((with_reducible (first | apply wV | apply wW | apply wX | (apply wY [] hTT cf0_ok noM_ok mixed; (focus kernel_rfl)))); (focus (simp only [Tryz.f49, hl', go_sem]; with_reducible rfl))) | (with_reducible refine wZ hTT cf0_ok noM_ok ?_) | (with_reducible refine wa ?_; refine And.intro ?_ ?_; (focus kernel_rfl)))
    refine ⟨rfl, rfl, _, rfl, ?_⟩
    rw [decide_eq_false (fun e => hl (by rw [e]))]; rfl
def c49 : List PV → List Box → Option (PRes × List Box)
  | [v, w], sg => match decIs1 v, decIs1 w with
    | some a, some b => if a.length ≤ maxLen then some (.ret (.bool (decide (a = b))), sg) else none
    | _, _ => none
  | _, _ => none
theorem c49_ok : ConOk Tryz.prog 49 c49 := ConOk.of0 (ent Tryz.func49 rfl) fun args sg r sg' h => by
  unfold c49 at h
  split at h <;> try (cases h; done)
  split at h <;> try (cases h; done)
  rename_i h1 h2
  split at h <;> cases h
  rename_i hc
  obtain ⟨za, rfl, ha⟩ := decIs1_inv h1
  obtain ⟨zb, rfl, hb⟩ := decIs1_inv h2
  exact ⟨_, rfl, rfl, by rw [ltBL_cons, ltB_isl, ltBL_cons, ltB_isl]; rfl, Same_49 _ _ _ _ ha hb hc⟩
def cfV : CallF := cfAdd (cfAdd cf0 69 c87) 32 c143
theorem cfV_ok : CallFOk Tryz.prog cfV := cfAdd_ok (cfAdd_ok cf0_ok c69_ok) c32_ok
theorem Fine_44 (s : Int) (z zh zr zp : Z) (ls : List Lb) (g : Stg) (ps : List Int) (hzo : zOk z (ls.map encLb) = true) (hh : zOk zh (g.hs.map encFld) = true) (hr : zOk zr (g.rs.map ii) = true) (hzp : zOk zp (ps.map ii) = true) (hf : figB s ls = true) (hg : stgG ls g = true) (hpo : poseG ls ps = true) :
    CallOk Tryz.prog 44 [.agg [ii s, .sl z (ls.map encLb)], encStg zh zr g, .sl zp (ps.map ii)] [] (.ret (.bool (finG s ls g ps))) [] := by
  refine CallOk.of0 hTT Tryz.func44 rfl rfl ?_
  have hd := decFig_enc s z ls hzo
  have hd3 := decIs1_enc hzp
  have hl := fig_len hf
  obtain ⟨f0, f1, r0, r1, H⟩ := stgIn (s := s) hg
  have hzh : zh ≠ .n := fun e => by subst e; rw [H.hs] at hh; cases hh
  have hzr : zr ≠ .n := fun e => by subst e; rw [H.rs] at hr; cases hr
  have hm0 := H.l0.1
  have hm1 := H.l1.1
  have g0 := ends_get hf hpo H.l0
  have g1 := ends_get hf hpo H.l1
  rw [finG_in H]
  unfold encStg
  rw [H.hs, H.rs]
  simp only [List.map_cons, List.map_nil]
  unfold encFld
  have hel := ends_ln hf hpo
  have hlt0 : r0 < (ends s ls ps).length := by have := H.l0.2; omega
  have hlt1 : r1 < (ends s ls ps).length := by have := H.l1.2; omega
  have hoo : ends s ls ps ≠ [] := fun e => by rw [e] at hel; simp at hel; omega
  generalize hp0 : (ends s ls ps).getD r0.toNat (0, 0) = p0 at g0 ⊢
  generalize hp1 : (ends s ls ps).getD r1.toNat (0, 0) = p1 at g1 ⊢
  repeat (first | (with_reducible (first | apply wA | apply wB | apply wC | apply wD | apply wE | apply wF | apply wG | apply wH | apply wI | apply wJ | apply wK | apply wL | apply wM | apply wN | apply wO | apply wP | apply wQ rfl | apply wR | apply wS | apply wT | apply wU)) | ((with_reducible (first | apply wV | apply wW | apply wX | (apply wY [] hTT cfV_ok noM_ok mixed; (focus kernel_rfl)))); (focus (simp only [Tryz.f44, cfV, c87, hd, hd3, hf, hpo, go_sem]; with_reducible rfl))) | (with_reducible refine wZ hTT cfV_ok noM_ok ?_) | (with_reducible refine wa ?_; refine And.intro ?_ ?_; (focus kernel_rfl)))
  unfold fineG
  generalize hO : ends s ls ps = O at *
  refine RunQ.keep [8, 7, 6, 4] (by simp only [go_sem]; rfl) ?_
  obtain ⟨e, hs', rs'⟩ := g
  have hde : (⟨e.a, e.b, e.c, e.d⟩ : Fld) = e := rfl
  have hdf : decFld (.agg [ii e.a, ii e.b, ii e.c, ii e.d]) = some e := rfl
  have hdf0 : decFld (.agg [ii f0.a, ii f0.b, ii f0.c, ii f0.d]) = some f0 := rfl
  have hdf1 : decFld (.agg [ii f1.a, ii f1.b, ii f1.c, ii f1.d]) = some f1 := rfl
  have hdp : ∀ p : Pl, decPl (.agg [ii p.1, ii p.2]) = some p := fun p => rfl
  refine RunQ.loop (fun i s' => O.all (fun p => lieG p e) = (O.drop i).all (fun p => lieG p e) ∧ s' = ⟨[(8, ii i), (7, .sl .a (O.map encPl)), (6, .bool false), (4, .bp 1 0)], 72, [.var [ii s, .sl z (ls.map encLb)] false, .var [ii e.a, ii e.b, ii e.c, ii e.d, .sl zh [.agg [ii f0.a, ii f0.b, ii f0.c, ii f0.d], .agg [ii f1.a, ii f1.b, ii f1.c, ii f1.d]], .sl zr [ii r0, ii r1]] false]⟩) O.length ⟨rfl, rfl⟩ ?_
  rintro i _ hi ⟨hm, rfl⟩
  by_cases hlt : i < O.length
  · obtain ⟨p, hp⟩ : ∃ p, O[i]? = some p := ⟨_, List.getElem?_eq_getElem hlt⟩
    have hp' : (O.map encPl)[i]? = some (.agg [ii p.1, ii p.2]) := map_get hp
    have hlt' : (i : Int) < O.length := by omega
    have e4 : IntKind.i64.wrap ((i : Int) + 1) = ((i + 1 : Nat) : Int) := wrap_id (by omega) (by omega)
    rw [drop_get hp, List.all_cons] at hm
    cases hlie : lieG p e
    · rw [hlie] at hm
      repeat (first | (with_reducible (first | apply wA | apply wB | apply wC | apply wD | apply wE | apply wF | apply wG | apply wH | apply wI | apply wJ | apply wK | apply wL | apply wM | apply wN | apply wO | apply wP | apply wQ rfl | apply wR | apply wS | apply wT | apply wU)) | ((with_reducible (first | apply wV | apply wW | apply wX | (apply wY [] hTT cfV_ok noM_ok mixed; (focus kernel_rfl)))); (focus (simp only [Tryz.f44, cfV, c143, hdp, hdf, hlie, hp', hlt', e4, go_sem]; with_reducible rfl))) | (with_reducible refine wZ hTT cfV_ok noM_ok ?_) | (with_reducible refine wa ?_; refine And.intro ?_ ?_; (focus kernel_rfl)))
      exact ⟨rfl, rfl, _, rfl, by rw [hm]; rfl⟩
    · rw [hlie, Bool.true_and] at hm
      repeat (first | (with_reducible (first | apply wA | apply wB | apply wC | apply wD | apply wE | apply wF | apply wG | apply wH | apply wI | apply wJ | apply wK | apply wL | apply wM | apply wN | apply wO | apply wP | apply wQ rfl | apply wR | apply wS | apply wT | apply wU)) | ((with_reducible (first | apply wV | apply wW | apply wX | (apply wY [] hTT cfV_ok noM_ok mixed; (focus kernel_rfl)))); (focus (simp only [Tryz.f44, cfV, c143, hdp, hdf, hlie, hp', hlt', e4, go_sem]; with_reducible rfl))) | (with_reducible refine wZ hTT cfV_ok noM_ok ?_) | (with_reducible refine wa ?_; refine And.intro ?_ ?_; (focus kernel_rfl)))
      refine roundQ.t 2 [8, 7, 6, 4] hlt (by simp only [ltB_pls, ltB_lbs, ltB_int, ltB_sl, ltB_agg, ltBL_cons, ltBL_nil, go_sem]) ⟨hm, by simp only [go_sem]⟩
  · have hlt' : ¬ (i : Int) < O.length := by omega
    have hall : O.all (fun p => lieG p e) = true := by rw [hm, List.drop_eq_nil_of_le (by omega)]; rfl
    have q0' : (O.map encPl)[r0.toNat]? = some (.agg [ii p0.1, ii p0.2]) := map_get g0
    have q1' : (O.map encPl)[r1.toNat]? = some (.agg [ii p1.1, ii p1.2]) := map_get g1
    show RunQ _ _ _ _
    repeat (first | (with_reducible (first | apply wA | ((fail_if_success (refine RunQ.seq (x := .region 8 _ _) ?_)); (apply wB)) | apply wC | apply wD | apply wE | apply wF | apply wG | apply wH | apply wI | apply wJ | apply wK | apply wL | apply wM | apply wN | apply wO | apply wP | apply wQ rfl | apply wR | apply wS | apply wT | apply wU)) | ((with_reducible (first | apply wV | apply wW | apply wX | (apply wY [] hTT cfV_ok noM_ok mixed; (focus kernel_rfl)))); (focus (simp only [Tryz.f44, cfV, hlt', hzh, hzr, q0', q1', hm0, hm1, hlt0, hlt1, go_sem]; with_reducible rfl))) | ((fail_if_success (with_reducible show RunQ _ (.region 8 _ _) _ _)); (with_reducible refine wZ hTT cfV_ok noM_ok ?_)) | (with_reducible refine wa ?_; refine And.intro ?_ ?_; (focus kernel_rfl)))
    rw [hall, Bool.true_and]
    cases a1 : lieG p0 f0
    · cases a3 : lieG p0 f1
      · repeat (first | (with_reducible (first | apply wA | apply wB | apply wC | apply wD | apply wE | apply wF | apply wG | apply wH | apply wI | apply wJ | apply wK | apply wL | apply wM | apply wN | apply wO | apply wP | apply wQ rfl | apply wR | apply wS | apply wT | apply wU)) | ((with_reducible (first | apply wV | apply wW | apply wX | (apply wY [] hTT cfV_ok noM_ok mixed; (focus kernel_rfl)))); (focus (simp only [Tryz.f44, cfV, c143, hdp, hdf0, hdf1, a1, a3, hzh, go_sem]; with_reducible rfl))) | (with_reducible refine wZ hTT cfV_ok noM_ok ?_) | (with_reducible refine wa ?_; refine And.intro ?_ ?_; (focus kernel_rfl)))
        exact ⟨rfl, rfl, _, rfl, rfl⟩
      · cases a4 : lieG p1 f0
        · repeat (first | (with_reducible (first | apply wA | apply wB | apply wC | apply wD | apply wE | apply wF | apply wG | apply wH | apply wI | apply wJ | apply wK | apply wL | apply wM | apply wN | apply wO | apply wP | apply wQ rfl | apply wR | apply wS | apply wT | apply wU)) | ((with_reducible (first | apply wV | apply wW | apply wX | (apply wY [] hTT cfV_ok noM_ok mixed; (focus kernel_rfl)))); (focus (simp only [Tryz.f44, cfV, c143, hdp, hdf0, hdf1, a1, a3, a4, hzh, go_sem]; with_reducible rfl))) | (with_reducible refine wZ hTT cfV_ok noM_ok ?_) | (with_reducible refine wa ?_; refine And.intro ?_ ?_; (focus kernel_rfl)))
          exact ⟨rfl, rfl, _, rfl, rfl⟩
        · repeat (first | (with_reducible (first | apply wA | apply wB | apply wC | apply wD | apply wE | apply wF | apply wG | apply wH | apply wI | apply wJ | apply wK | apply wL | apply wM | apply wN | apply wO | apply wP | apply wQ rfl | apply wR | apply wS | apply wT | apply wU)) | ((with_reducible (first | apply wV | apply wW | apply wX | (apply wY [] hTT cfV_ok noM_ok mixed; (focus kernel_rfl)))); (focus (simp only [Tryz.f44, cfV, c143, hdp, hdf0, hdf1, a1, a3, a4, hzh, go_sem]; with_reducible rfl))) | (with_reducible refine wZ hTT cfV_ok noM_ok ?_) | (with_reducible refine wa ?_; refine And.intro ?_ ?_; (focus kernel_rfl)))
          exact ⟨rfl, rfl, _, rfl, rfl⟩
    · cases a2 : lieG p1 f1
      · cases a3 : lieG p0 f1
        · repeat (first | (with_reducible (first | apply wA | apply wB | apply wC | apply wD | apply wE | apply wF | apply wG | apply wH | apply wI | apply wJ | apply wK | apply wL | apply wM | apply wN | apply wO | apply wP | apply wQ rfl | apply wR | apply wS | apply wT | apply wU)) | ((with_reducible (first | apply wV | apply wW | apply wX | (apply wY [] hTT cfV_ok noM_ok mixed; (focus kernel_rfl)))); (focus (simp only [Tryz.f44, cfV, c143, hdp, hdf0, hdf1, a1, a2, a3, hzh, go_sem]; with_reducible rfl))) | (with_reducible refine wZ hTT cfV_ok noM_ok ?_) | (with_reducible refine wa ?_; refine And.intro ?_ ?_; (focus kernel_rfl)))
          exact ⟨rfl, rfl, _, rfl, rfl⟩
        · cases a4 : lieG p1 f0
          · repeat (first | (with_reducible (first | apply wA | apply wB | apply wC | apply wD | apply wE | apply wF | apply wG | apply wH | apply wI | apply wJ | apply wK | apply wL | apply wM | apply wN | apply wO | apply wP | apply wQ rfl | apply wR | apply wS | apply wT | apply wU)) | ((with_reducible (first | apply wV | apply wW | apply wX | (apply wY [] hTT cfV_ok noM_ok mixed; (focus kernel_rfl)))); (focus (simp only [Tryz.f44, cfV, c143, hdp, hdf0, hdf1, a1, a2, a3, a4, hzh, go_sem]; with_reducible rfl))) | (with_reducible refine wZ hTT cfV_ok noM_ok ?_) | (with_reducible refine wa ?_; refine And.intro ?_ ?_; (focus kernel_rfl)))
            exact ⟨rfl, rfl, _, rfl, rfl⟩
          · repeat (first | (with_reducible (first | apply wA | apply wB | apply wC | apply wD | apply wE | apply wF | apply wG | apply wH | apply wI | apply wJ | apply wK | apply wL | apply wM | apply wN | apply wO | apply wP | apply wQ rfl | apply wR | apply wS | apply wT | apply wU)) | ((with_reducible (first | apply wV | apply wW | apply wX | (apply wY [] hTT cfV_ok noM_ok mixed; (focus kernel_rfl)))); (focus (simp only [Tryz.f44, cfV, c143, hdp, hdf0, hdf1, a1, a2, a3, a4, hzh, go_sem]; with_reducible rfl))) | (with_reducible refine wZ hTT cfV_ok noM_ok ?_) | (with_reducible refine wa ?_; refine And.intro ?_ ?_; (focus kernel_rfl)))
            exact ⟨rfl, rfl, _, rfl, rfl⟩
      · repeat (first | (with_reducible (first | apply wA | apply wB | apply wC | apply wD | apply wE | apply wF | apply wG | apply wH | apply wI | apply wJ | apply wK | apply wL | apply wM | apply wN | apply wO | apply wP | apply wQ rfl | apply wR | apply wS | apply wT | apply wU)) | ((with_reducible (first | apply wV | apply wW | apply wX | (apply wY [] hTT cfV_ok noM_ok mixed; (focus kernel_rfl)))); (focus (simp only [Tryz.f44, cfV, c143, hdp, hdf0, hdf1, a1, a2, hzh, go_sem]; with_reducible rfl))) | (with_reducible refine wZ hTT cfV_ok noM_ok ?_) | (with_reducible refine wa ?_; refine And.intro ?_ ?_; (focus kernel_rfl)))
        exact ⟨rfl, rfl, _, rfl, rfl⟩
end Go.Pv
namespace Go.Pv
open Go Go.RowKit Go.Proofs
set_option maxRecDepth 10000
set_option maxHeartbeats 4000000
def c44 : List PV → List Box → Option (PRes × List Box)
  | [v, w, p], sg => match decFig v, decStg w, decIs1 p with
    | some (s, ls), some g, some ps => if figB s ls = true ∧ stgG ls g = true ∧ poseG ls ps = true then some (.ret (.bool (finG s ls g ps)), sg) else none
    | _, _, _ => none
  | _, _ => none
theorem c44_ok : ConOk Tryz.prog 44 c44 := ConOk.of0 (ent Tryz.func44 rfl) fun args sg r sg' h => by
  unfold c44 at h
  split at h <;> try (cases h; done)
  split at h <;> try (cases h; done)
  rename_i h1 h2 h3
  split at h <;> cases h
  rename_i hc
  obtain ⟨z, rfl, hz⟩ := decFig_inv h1
  obtain ⟨zh, zr, rfl, hh, hr⟩ := decStg_inv h2
  obtain ⟨zp, rfl, hp⟩ := decIs1_inv h3
  exact ⟨_, rfl, rfl, by rw [ltBL_cons, ltB_fig, ltBL_cons, ltB_stg, ltBL_cons, ltB_isl]; rfl, Fine_44 _ _ _ _ _ _ _ _ (zOk_n' hz) hh hr (zOk_n' hp) hc.1 hc.2.1 hc.2.2⟩
end Go.Pv
