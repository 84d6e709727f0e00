/- How many poses and truths there are at most; the bounds of turns. In plain terms. -/
import Derived.Test.YtmnocohggpmjcaaGreatDoorQvTurns
import Derived.Test.YtmnocohggpmjcaaGreatDoorQwReach
set_option linter.all false
namespace Go.Pv
open Go Go.RowKit Go.Proofs
def cardS : List (Int × Int) → Nat
  | [] => 1
  | x :: r => (x.2 + 1 - x.1).toNat * cardS r
theorem sum_const {α : Type} (f : α → Nat) (c : Nat) : ∀ l : List α, (∀ a ∈ l, f a = c) → (l.map f).sum = l.length * c
  | [], _ => by simp
  | a :: l, h => by
    rw [List.map_cons, List.sum_cons, h a (by simp), sum_const f c l fun x hx => h x (by simp [hx]), List.length_cons, Nat.succ_mul, Nat.add_comm]
theorem exts_card : ∀ (sp : List (Int × Int)) (now : List Int), (exts sp now).length = cardS sp
  | [], _ => rfl
  | x :: r, now => by
    show ((rng x.1 x.2).flatMap fun n => exts r (now ++ [n])).length = _
    rw [List.length_flatMap, sum_const _ (cardS r) _ fun n _ => exts_card r _]
    unfold rng
    simp [cardS]
theorem many_card : ∀ (ls : List Lb) (i m r : Int), manyG i m ls = some r → r = m * (cardS (spansG ls) : Int)
  | [], i, m, r, h => by cases h; simp [spansG, cardS]
  | x :: ls, i, m, r, h => by
    unfold manyG at h
    split at h
    · rename_i hb
      have hb := lb_d hb
      have ih := many_card ls _ _ _ h
      have e : (((x.hi + 1 - x.lo).toNat * cardS (spansG ls) : Nat) : Int) = (x.hi - x.lo + 1) * (cardS (spansG ls) : Int) := by
        rw [Int.natCast_mul]
        congr 1
        omega
      show r = m * ((cardS ((x.lo, x.hi) :: spansG ls) : Nat) : Int)
      rw [ih]
      show _ = m * (((x.hi + 1 - x.lo).toNat * cardS (spansG ls) : Nat) : Int)
      rw [e, Int.mul_assoc]
    · cases h
theorem card_2000 {s : Int} {ls : List Lb} (hf : figB s ls = true) : cardS (spansG ls) ≤ 2000 := by
  unfold figB at hf
  cases h : manyG 0 1 ls with
  | none => rw [h] at hf; simp at hf
  | some m =>
    rw [h] at hf
    have := many_card ls _ _ _ h
    simp at hf
    omega
theorem poses_2000 {s : Int} {ls : List Lb} (hf : figB s ls = true) : (posesG ls).length ≤ 2000 := by
  unfold posesG
  rw [exts_card]
  exact card_2000 hf
theorem reach_2000 {s : Int} {ls : List Lb} (hf : figB s ls = true) (n : Int) : (reachG s ls n).length ≤ 2000 := by
  have h1 := puts_len (endL s ls n (posesG ls))
  have h2 : (endL s ls n (posesG ls)).length = (posesG ls).length := by simp [endL]
  have h3 := poses_2000 hf
  unfold reachG
  omega
theorem reach_mem {s : Int} {ls : List Lb} {n : Int} {p : Pl} : p ∈ reachG s ls n ↔ ∃ l, poseG ls l = true ∧ endG1 s ls n l = p := by
  unfold reachG endL
  rw [puts_mem, List.mem_map]
  constructor
  · rintro ⟨l, h1, h2⟩; exact ⟨l, mem_poses.1 h1, h2⟩
  · rintro ⟨l, h1, h2⟩; exact ⟨l, mem_poses.2 h1, h2⟩
theorem mat_mem {s : Int} {ls : List Lb} {n : Int} {p : Pl} {l : List Int} : l ∈ matG s ls n p ↔ poseG ls l = true ∧ endG1 s ls n l = p := by
  unfold matG atG
  rw [List.mem_filter, mem_poses]
  simp
/-- What the bounds say. -/
structure BndOk (ls : List Lb) (M : List (List Int)) (i : Nat) (a : Int × Int) : Prop where
  le : a.1 ≤ a.2
  lo : ∀ x, ls[i]? = some x → x.lo ≤ a.1 ∧ a.2 ≤ x.hi
  all : ∀ l ∈ M, ∀ t, l[i]? = some t → a.1 ≤ t ∧ t ≤ a.2
def BInv (ls : List Lb) (B : List (Int × Int)) (M : List (List Int)) : Prop := (M = [] ∧ B = []) ∨ (B.length = ls.length ∧ B ≠ [] ∧ ∀ i a, B[i]? = some a → BndOk ls M i a)
theorem bstep {ls : List Lb} {B : List (Int × Int)} {M : List (List Int)} {l : List Int} (hne : ls ≠ []) (hl : poseG ls l = true) (h : BInv ls B M) : BInv ls (stepM B l) (M ++ [l]) := by
  obtain ⟨hll, hlb⟩ := pose_at hl
  have hB : B = [] ∨ B.length = ls.length := by
    rcases h with ⟨_, h⟩ | ⟨h, _⟩
    · exact .inl h
    · exact .inr h
  have hln := step_len hll hB
  refine .inr ⟨hln, fun e => ?_, fun i a ha => ?_⟩
  · rw [e] at hln
    exact hne (List.length_eq_zero_iff.1 hln.symm)
  · unfold stepM at ha
    rw [List.getElem?_zipWith] at ha
    cases hc : (firstB B l)[i]? with
    | none => rw [hc] at ha; simp at ha
    | some c =>
      cases ht : l[i]? with
      | none => rw [hc, ht] at ha; simp at ha
      | some t =>
        rw [hc, ht] at ha
        have ha : mmS c t = a := by simpa using ha
        subst ha
        rcases h with ⟨rfl, rfl⟩ | ⟨h1, h2, h3⟩
        · have hc : (l.map fun n => (n, n))[i]? = some c := hc
          rw [List.getElem?_map, ht] at hc
          have hc : (t, t) = c := by simpa using hc
          subst hc
          refine ⟨by simp [mmS], fun x hx => ?_, fun l' hl' t' ht' => ?_⟩
          · have := hlb i x t hx ht
            simp [mmS]; omega
          · have hl' : l' = l := by simpa using hl'
            subst hl'
            rw [ht] at ht'
            cases ht'
            simp [mmS]
        · have hc : B[i]? = some c := by
            unfold firstB at hc
            rw [if_neg h2] at hc
            exact hc
          obtain ⟨b1, b2, b3⟩ := h3 i c hc
          refine ⟨by simp only [mmS]; omega, fun x hx => ?_, fun l' hl' t' ht' => ?_⟩
          · have := hlb i x t hx ht
            have := b2 x hx
            simp only [mmS]; omega
          · rcases List.mem_append.1 hl' with hl' | hl'
            · have := b3 l' hl' t' ht'
              simp only [mmS]; omega
            · have hl' : l' = l := by simpa using hl'
              subst hl'
              rw [ht] at ht'
              cases ht'
              simp only [mmS]; omega
theorem bfold {ls : List Lb} (hne : ls ≠ []) : ∀ (M2 M1 : List (List Int)) (B : List (Int × Int)), (∀ l ∈ M2, poseG ls l = true) → BInv ls B M1 → BInv ls (M2.foldl stepM B) (M1 ++ M2)
  | [], M1, B, _, h => by simpa using h
  | l :: M2, M1, B, hM, h => by
    have := bfold hne M2 (M1 ++ [l]) (stepM B l) (fun x hx => hM x (by simp [hx])) (bstep hne (hM l (by simp)) h)
    rw [List.foldl_cons]
    simpa using this
theorem bnd_ok {ls : List Lb} (hne : ls ≠ []) {M : List (List Int)} (hM : ∀ l ∈ M, poseG ls l = true) (h0 : M ≠ []) : ∀ i a, (bndG M)[i]? = some a → BndOk ls M i a := by
  have := bfold hne M [] [] hM (.inl ⟨rfl, rfl⟩)
  rcases this with ⟨h, _⟩ | ⟨_, _, h⟩
  · exact absurd (by simpa using h) h0
  · exact fun i a ha => by simpa using h i a ha
end Go.Pv
