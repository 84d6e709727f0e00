/- The plain law of ends: what a limb's end depends on. No program in sight. -/
import Derived.Test.YtmnocohggpmjcaaGreatDoorQgEnds
set_option linter.all false
namespace Go.Pv
theorem lb_d' {i : Int} {x : Lb} (h : lbB i x = true) : -1 ≤ x.p ∧ x.p ≤ i - 1 ∧ 1 ≤ x.l ∧ x.l ≤ 20 := by
  simp [lbB, inB] at h
  omega
/-- The turns of all limbs in a pose, all told. -/
def trns (s : Int) (ls : List Lb) (p : List Int) : List Int := (endsG s ls p [] []).2

theorem getD_app {α : Type} (a b : List α) (i : Nat) (d : α) (h : i < a.length) : (a ++ b).getD i d = a.getD i d := by
  simp only [List.getD_eq_getElem?_getD]
  rw [List.getElem?_append_left h]
theorem fromG_app (s : Int) (x : Lb) (out o2 : List Pl) (tr t2 : List Int) (h : x.p < out.length) (h' : x.p < tr.length) : fromG s x (out ++ o2) (tr ++ t2) = fromG s x out tr := by
  unfold fromG
  split
  · rw [getD_app _ _ _ _ (by omega), getD_app _ _ _ _ (by omega)]
  · rfl

theorem turnG_from {s : Int} {x : Lb} {O O' : List Pl} {R R' : List Int} (t : Int) (h : fromG s x O R = fromG s x O' R') : turnG s x O R t = turnG s x O' R' t := by unfold turnG; rw [h]
theorem endG_from {s : Int} {x : Lb} {O O' : List Pl} {R R' : List Int} (t : Int) (h : fromG s x O R = fromG s x O' R') : endG s x O R t = endG s x O' R' t := by unfold endG; rw [turnG_from t h, h]

theorem endsG_at (s : Int) : ∀ (r : List Lb) (q : List Int) (out : List Pl) (tr : List Int), out.length = tr.length → r.length = q.length →
    (∀ (i : Nat) (x : Lb), r[i]? = some x → x.p < out.length + i) →
    ∃ o2 t2, endsG s r q out tr = (out ++ o2, tr ++ t2) ∧ o2.length = r.length ∧ t2.length = r.length ∧ ∀ (i : Nat) (x : Lb) (t : Int), r[i]? = some x → q[i]? = some t →
      (out ++ o2)[out.length + i]? = some (endG s x (out ++ o2) (tr ++ t2) t) ∧ (tr ++ t2)[out.length + i]? = some (turnG s x (out ++ o2) (tr ++ t2) t)
  | [], q, out, tr, h1, h2, h3 => ⟨[], [], by cases q <;> simp [endsG], rfl, rfl, fun i x t h => by simp at h⟩
  | x :: r, [], out, tr, h1, h2, h3 => by simp at h2
  | x :: r, t :: q, out, tr, h1, h2, h3 => by
    have hx := h3 0 x rfl
    obtain ⟨o2, t2, e1, e2, e3, e4⟩ := endsG_at s r q (out ++ [endG s x out tr t]) (tr ++ [turnG s x out tr t]) (by simp [h1]) (by simpa using h2) (fun i y hy => by
      have := h3 (i + 1) y (by simpa using hy)
      simp only [List.length_append, List.length_singleton]
      omega)
    refine ⟨endG s x out tr t :: o2, turnG s x out tr t :: t2, ?_, by simp [e2], by simp [e3], ?_⟩
    · unfold endsG
      rw [e1]
      simp
    · intro i y u hy hu
      cases i with
      | zero =>
        simp only [List.getElem?_cons_zero, Option.some.injEq] at hy hu
        subst hy; subst hu
        have hf := fromG_app s x out (endG s x out tr t :: o2) tr (turnG s x out tr t :: t2) (by omega) (by omega)
        have ht := turnG_from t hf
        have he := endG_from t hf
        rw [ht, he]
        constructor
        · rw [List.getElem?_append_right (by omega)]; simp
        · rw [List.getElem?_append_right (by omega), h1]; simp
      | succ i =>
        have := e4 i y u (by simpa using hy) (by simpa using hu)
        simp only [List.append_assoc, List.singleton_append, List.length_append, List.length_singleton] at this
        rw [show out.length + (i + 1) = out.length + 1 + i by omega]
        exact this

/-- What holds of each limb's end and turn. -/
structure EndsAt (s : Int) (ls : List Lb) (ps : List Int) (O : List Pl) (R : List Int) : Prop where
  lo : O.length = ls.length
  lr : R.length = ls.length
  at_ : ∀ (i : Nat) (x : Lb) (t : Int), ls[i]? = some x → ps[i]? = some t → O[i]? = some (endG s x O R t) ∧ R[i]? = some (turnG s x O R t)

theorem ends_at {s : Int} {ls : List Lb} {ps : List Int} (hf : figB s ls = true) (hp : poseG ls ps = true) : EndsAt s ls ps (ends s ls ps) (trns s ls ps) := by
  obtain ⟨_, _, _, _, hl⟩ := fig_limbs hf
  obtain ⟨hpl, _⟩ := pose_at hp
  obtain ⟨o2, t2, e1, e2, e3, e4⟩ := endsG_at s ls ps [] [] rfl hpl.symm (fun i x hx => by
    have := lb_d' (hl i x hx)
    simp
    omega)
  simp only [List.nil_append, List.length_nil, Nat.zero_add] at e1 e4
  have a1 : ends s ls ps = o2 := by unfold ends; rw [e1]
  have a2 : trns s ls ps = t2 := by unfold trns; rw [e1]
  rw [a1, a2]
  exact ⟨e2, e3, e4⟩

/-- The law's function hangs. -/
def hangG (ls : List Lb) (on : Int) : Nat → Int → Bool
  | 0, _ => false
  | k + 1, i => if 0 ≤ i then (if i = on then true else match ls[i.toNat]? with
    | some x => hangG ls on k x.p
    | none => false) else false

theorem fromG_eq {s : Int} {x : Lb} {O O' : List Pl} {R R' : List Int} (h : 0 ≤ x.p → O[x.p.toNat]? = O'[x.p.toNat]? ∧ R[x.p.toNat]? = R'[x.p.toNat]?) : fromG s x O R = fromG s x O' R' := by
  unfold fromG
  split
  · rename_i h0
    obtain ⟨a, b⟩ := h h0
    simp only [List.getD_eq_getElem?_getD, a, b]
  · rfl

theorem hang_same {s : Int} {ls : List Lb} {ps : List Int} {k : Nat} {t : Int} (hf : figB s ls = true) (hp : poseG ls ps = true) (hn : poseG ls (ps.set k t) = true) :
    ∀ (i : Nat), i < ls.length → ∀ fuel, i + 1 ≤ fuel → hangG ls k fuel i = false → (ends s ls ps)[i]? = (ends s ls (ps.set k t))[i]? ∧ (trns s ls ps)[i]? = (trns s ls (ps.set k t))[i]? := by
  intro i
  induction i using Nat.strongRecOn with
  | ind i ih =>
    intro hi fuel hfu hh
    have A := ends_at hf hp
    have B := ends_at hf hn
    obtain ⟨x, hx⟩ : ∃ x, ls[i]? = some x := ⟨_, List.getElem?_eq_getElem hi⟩
    obtain ⟨hpl, _⟩ := pose_at hp
    obtain ⟨u, hu⟩ : ∃ u, ps[i]? = some u := ⟨_, List.getElem?_eq_getElem (by omega)⟩
    obtain ⟨_, _, _, _, hl⟩ := fig_limbs hf
    have hb := lb_d' (hl i x hx)
    obtain ⟨fuel, rfl⟩ : ∃ m, fuel = m + 1 := ⟨fuel - 1, by omega⟩
    unfold hangG at hh
    simp only [Int.natCast_nonneg, if_true, Int.toNat_natCast, hx] at hh
    split at hh
    · cases hh
    · rename_i hik
      have hik' : k ≠ i := fun e => hik (by rw [e])
      have hu' : (ps.set k t)[i]? = some u := by rw [List.getElem?_set_ne hik']; exact hu
      obtain ⟨a1, a2⟩ := A.at_ i x u hx hu
      obtain ⟨b1, b2⟩ := B.at_ i x u hx hu'
      have hfr : fromG s x (ends s ls ps) (trns s ls ps) = fromG s x (ends s ls (ps.set k t)) (trns s ls (ps.set k t)) := fromG_eq fun h0 => by
        have := ih x.p.toNat (by omega) (by omega) fuel (by omega) (by rw [Int.toNat_of_nonneg h0]; exact hh)
        exact this
      rw [a1, a2, b1, b2]
      exact ⟨by rw [endG_from u hfr], by rw [turnG_from u hfr]⟩

theorem step_cases (d : Int) (h0 : 0 ≤ d) (h8 : d < 8) : stepG d ∈ [((7 : Int), (0 : Int)), (5, 5), (0, 7), (-5, 5), (-7, 0), (-5, -5), (0, -7), (5, -5)] := by
  have : d = 0 ∨ d = 1 ∨ d = 2 ∨ d = 3 ∨ d = 4 ∨ d = 5 ∨ d = 6 ∨ d = 7 := by omega
  rcases this with rfl | rfl | rfl | rfl | rfl | rfl | rfl | rfl <;> decide

theorem ends_bound {s : Int} {ls : List Lb} {ps : List Int} (hf : figB s ls = true) (hp : poseG ls ps = true) : ∀ (i : Nat), i < ls.length → ∀ p, (ends s ls ps)[i]? = some p →
    -(140 * ((i : Int) + 1)) ≤ p.1 ∧ p.1 ≤ 140 * ((i : Int) + 1) ∧ -(140 * ((i : Int) + 1)) ≤ p.2 ∧ p.2 ≤ 140 * ((i : Int) + 1) := by
  intro i
  induction i using Nat.strongRecOn with
  | ind i ih =>
    intro hi p hpp
    have A := ends_at hf hp
    obtain ⟨x, hx⟩ : ∃ x, ls[i]? = some x := ⟨_, List.getElem?_eq_getElem hi⟩
    obtain ⟨hpl, _⟩ := pose_at hp
    obtain ⟨u, hu⟩ : ∃ u, ps[i]? = some u := ⟨_, List.getElem?_eq_getElem (by omega)⟩
    obtain ⟨_, _, _, _, hl⟩ := fig_limbs hf
    have hb := lb_d' (hl i x hx)
    obtain ⟨a1, a2⟩ := A.at_ i x u hx hu
    rw [a1] at hpp
    cases hpp
    have hst := step_cases (turnG s x (ends s ls ps) (trns s ls ps) u % 8) (by omega) (by omega)
    have hfrom : -(140 * (i : Int)) ≤ (fromG s x (ends s ls ps) (trns s ls ps)).1.1 ∧ (fromG s x (ends s ls ps) (trns s ls ps)).1.1 ≤ 140 * (i : Int) ∧ -(140 * (i : Int)) ≤ (fromG s x (ends s ls ps) (trns s ls ps)).1.2 ∧ (fromG s x (ends s ls ps) (trns s ls ps)).1.2 ≤ 140 * (i : Int) := by
      unfold fromG
      split
      · obtain ⟨q, hq⟩ : ∃ q, (ends s ls ps)[x.p.toNat]? = some q := ⟨_, List.getElem?_eq_getElem (by rw [A.lo]; omega)⟩
        have := ih x.p.toNat (by omega) (by omega) q hq
        simp only [List.getD_eq_getElem?_getD, hq, Option.getD_some]
        omega
      · simp only
        omega
    unfold endG
    generalize fromG s x (ends s ls ps) (trns s ls ps) = fr at *
    obtain ⟨⟨fx, fy⟩, fw⟩ := fr
    simp only [List.mem_cons, List.not_mem_nil, or_false] at hst
    simp only at hfrom ⊢
    rcases hst with h | h | h | h | h | h | h | h <;> rw [h] <;> simp only <;> omega

/-- The step of a limb. -/
theorem ends_step {s : Int} {ls : List Lb} {ps : List Int} (hf : figB s ls = true) (hp : poseG ls ps = true) {i : Nat} {x : Lb} {p : Pl} (hx : ls[i]? = some x) (hpp : (ends s ls ps)[i]? = some p) :
    ∃ fx fy : Int, (if 0 ≤ x.p then (ends s ls ps)[x.p.toNat]? = some (fx, fy) else fx = 0 ∧ fy = 0) ∧
      ((p.1 - fx, p.2 - fy) = (7 * x.l, 0) ∨ (p.1 - fx, p.2 - fy) = (5 * x.l, 5 * x.l) ∨ (p.1 - fx, p.2 - fy) = (0, 7 * x.l) ∨ (p.1 - fx, p.2 - fy) = (-5 * x.l, 5 * x.l) ∨
       (p.1 - fx, p.2 - fy) = (-7 * x.l, 0) ∨ (p.1 - fx, p.2 - fy) = (-5 * x.l, -5 * x.l) ∨ (p.1 - fx, p.2 - fy) = (0, -7 * x.l) ∨ (p.1 - fx, p.2 - fy) = (5 * x.l, -5 * x.l)) := by
  have A := ends_at hf hp
  have hi : i < ls.length := (List.getElem?_eq_some_iff.1 hx).1
  obtain ⟨hpl, _⟩ := pose_at hp
  obtain ⟨u, hu⟩ : ∃ u, ps[i]? = some u := ⟨_, List.getElem?_eq_getElem (by omega)⟩
  obtain ⟨_, _, _, _, hl⟩ := fig_limbs hf
  have hb := lb_d' (hl i x hx)
  obtain ⟨a1, a2⟩ := A.at_ i x u hx hu
  rw [a1] at hpp
  cases hpp
  have hst := step_cases (turnG s x (ends s ls ps) (trns s ls ps) u % 8) (by omega) (by omega)
  refine ⟨(fromG s x (ends s ls ps) (trns s ls ps)).1.1, (fromG s x (ends s ls ps) (trns s ls ps)).1.2, ?_, ?_⟩
  · unfold fromG
    split
    · obtain ⟨q, hq⟩ : ∃ q, (ends s ls ps)[x.p.toNat]? = some q := ⟨_, List.getElem?_eq_getElem (by rw [A.lo]; omega)⟩
      simp only [List.getD_eq_getElem?_getD, hq, Option.getD_some]
    · exact ⟨rfl, rfl⟩
  · unfold endG
    generalize fromG s x (ends s ls ps) (trns s ls ps) = fr at *
    obtain ⟨⟨fx, fy⟩, fw⟩ := fr
    simp only [List.mem_cons, List.not_mem_nil, or_false] at hst
    simp only [Prod.mk.injEq]
    rcases hst with h | h | h | h | h | h | h | h <;> rw [h] <;> simp only <;> omega

theorem step_inj {d e : Int} (h0 : 0 ≤ d) (h8 : d < 8) (k0 : 0 ≤ e) (k8 : e < 8) {l : Int} (hl : 1 ≤ l) (h1 : l * (stepG d).1 = l * (stepG e).1) (h2 : l * (stepG d).2 = l * (stepG e).2) : d = e := by
  have a := Int.eq_of_mul_eq_mul_left (by omega) h1
  have b := Int.eq_of_mul_eq_mul_left (by omega) h2
  have hd : d = 0 ∨ d = 1 ∨ d = 2 ∨ d = 3 ∨ d = 4 ∨ d = 5 ∨ d = 6 ∨ d = 7 := by omega
  have he : e = 0 ∨ e = 1 ∨ e = 2 ∨ e = 3 ∨ e = 4 ∨ e = 5 ∨ e = 6 ∨ e = 7 := by omega
  rcases hd with rfl | rfl | rfl | rfl | rfl | rfl | rfl | rfl <;> rcases he with rfl | rfl | rfl | rfl | rfl | rfl | rfl | rfl <;> first | rfl | (exfalso; revert a b; decide)

/-- Poses whose turns are alike by eighths look the same, and no others. -/
theorem ends_same {s : Int} {ls : List Lb} {ps qs : List Int} (hf : figB s ls = true) (hp : poseG ls ps = true) (hq : poseG ls qs = true) :
    (∀ (i : Nat) (t u : Int), ps[i]? = some t → qs[i]? = some u → (t - u) % 8 = 0) ↔ ends s ls ps = ends s ls qs := by
  have A := ends_at hf hp
  have B := ends_at hf hq
  obtain ⟨hpl, _⟩ := pose_at hp
  obtain ⟨hql, _⟩ := pose_at hq
  obtain ⟨_, _, _, _, hl⟩ := fig_limbs hf
  constructor
  · intro h
    have key : ∀ (i : Nat), i < ls.length → (ends s ls ps)[i]? = (ends s ls qs)[i]? ∧ ((trns s ls ps).getD i 0 - (trns s ls qs).getD i 0) % 8 = 0 := by
      intro i
      induction i using Nat.strongRecOn with
      | ind i ih =>
        intro hi
        obtain ⟨x, hx⟩ : ∃ x, ls[i]? = some x := ⟨_, List.getElem?_eq_getElem hi⟩
        obtain ⟨t, ht⟩ : ∃ t, ps[i]? = some t := ⟨_, List.getElem?_eq_getElem (by omega)⟩
        obtain ⟨u, hu⟩ : ∃ u, qs[i]? = some u := ⟨_, List.getElem?_eq_getElem (by omega)⟩
        have hb := lb_d' (hl i x hx)
        have htu := h i t u ht hu
        obtain ⟨a1, a2⟩ := A.at_ i x t hx ht
        obtain ⟨b1, b2⟩ := B.at_ i x u hx hu
        have hfr : (fromG s x (ends s ls ps) (trns s ls ps)).1 = (fromG s x (ends s ls qs) (trns s ls qs)).1 ∧ ((fromG s x (ends s ls ps) (trns s ls ps)).2 - (fromG s x (ends s ls qs) (trns s ls qs)).2) % 8 = 0 := by
          unfold fromG
          split
          · have := ih x.p.toNat (by omega) (by omega)
            simp only [List.getD_eq_getElem?_getD] at this ⊢
            exact ⟨by rw [this.1], this.2⟩
          · simp
        have hturn : turnG s x (ends s ls ps) (trns s ls ps) t % 8 = turnG s x (ends s ls qs) (trns s ls qs) u % 8 := by
          unfold turnG
          omega
        simp only [List.getD_eq_getElem?_getD, a1, a2, b1, b2, Option.getD_some]
        refine ⟨?_, by omega⟩
        unfold endG
        rw [hturn, hfr.1]
    refine List.ext_getElem? fun i => ?_
    by_cases hi : i < ls.length
    · exact (key i hi).1
    · rw [List.getElem?_eq_none (by rw [A.lo]; omega), List.getElem?_eq_none (by rw [B.lo]; omega)]
  · intro h
    have key : ∀ (i : Nat), i < ls.length → ((trns s ls ps).getD i 0 - (trns s ls qs).getD i 0) % 8 = 0 ∧ ∀ (t u : Int), ps[i]? = some t → qs[i]? = some u → (t - u) % 8 = 0 := by
      intro i
      induction i using Nat.strongRecOn with
      | ind i ih =>
        intro hi
        obtain ⟨x, hx⟩ : ∃ x, ls[i]? = some x := ⟨_, List.getElem?_eq_getElem hi⟩
        obtain ⟨t, ht⟩ : ∃ t, ps[i]? = some t := ⟨_, List.getElem?_eq_getElem (by omega)⟩
        obtain ⟨u, hu⟩ : ∃ u, qs[i]? = some u := ⟨_, List.getElem?_eq_getElem (by omega)⟩
        have hb := lb_d' (hl i x hx)
        obtain ⟨a1, a2⟩ := A.at_ i x t hx ht
        obtain ⟨b1, b2⟩ := B.at_ i x u hx hu
        have hfr : (fromG s x (ends s ls ps) (trns s ls ps)).1 = (fromG s x (ends s ls qs) (trns s ls qs)).1 ∧ ((fromG s x (ends s ls ps) (trns s ls ps)).2 - (fromG s x (ends s ls qs) (trns s ls qs)).2) % 8 = 0 := by
          unfold fromG
          split
          · have := (ih x.p.toNat (by omega) (by omega)).1
            exact ⟨by rw [h], this⟩
          · simp
        have he : endG s x (ends s ls ps) (trns s ls ps) t = endG s x (ends s ls qs) (trns s ls qs) u := by
          have : some (endG s x (ends s ls ps) (trns s ls ps) t) = some (endG s x (ends s ls qs) (trns s ls qs) u) := by rw [← a1, ← b1, h]
          exact Option.some.inj this
        unfold endG at he
        rw [hfr.1] at he
        simp only [Prod.mk.injEq] at he
        have hd := step_inj (d := turnG s x (ends s ls ps) (trns s ls ps) t % 8) (e := turnG s x (ends s ls qs) (trns s ls qs) u % 8) (by omega) (by omega) (by omega) (by omega) hb.2.2.1 (by omega) (by omega)
        simp only [List.getD_eq_getElem?_getD, a2, b2, Option.getD_some]
        unfold turnG at hd ⊢
        refine ⟨by omega, fun t' u' ht' hu' => ?_⟩
        rw [ht] at ht'; rw [hu] at hu'
        cases ht'; cases hu'
        omega
    intro i t u ht hu
    exact (key i (by rw [← hpl]; exact (List.getElem?_eq_some_iff.1 ht).1)).2 t u ht hu
end Go.Pv
