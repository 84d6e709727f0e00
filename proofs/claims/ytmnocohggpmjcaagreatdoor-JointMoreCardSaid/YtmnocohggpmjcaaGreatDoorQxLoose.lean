/- The law JointLoose in plain terms: which lists are truths; how surely a pose is held; a proof is the first one. -/
import Derived.Test.YtmnocohggpmjcaaGreatDoorQxCard
import Derived.Test.YtmnocohggpmjcaaGreatDoorQpHands
import Derived.Test.YtmnocohggpmjcaaGreatDoorQwSpr
set_option linter.all false
namespace Go.Pv
open Go Go.RowKit Go.Proofs
theorem inS_iff : ∀ {ls : List Lb} {ps os : List Int}, poseG ls ps = true → (inS (truS ls ps) os = true ↔ poseG ls os = true ∧ ∀ (j : Nat) (x : Lb) (t u : Int), ls[j]? = some x → ps[j]? = some t → os[j]? = some u → t - x.w ≤ u ∧ u ≤ t + x.w)
  | [], [], os, _ => by
    cases os with
    | nil => exact ⟨fun _ => ⟨rfl, fun j x t u h => by simp at h⟩, fun _ => rfl⟩
    | cons a os => exact ⟨fun h => (by cases h), fun h => (by cases h.1)⟩
  | x :: r, t :: q, os, hp => by
    simp only [poseG, Bool.and_eq_true] at hp
    cases os with
    | nil => exact ⟨fun h => (by cases h), fun h => (by cases h.1)⟩
    | cons u os =>
      have ih := inS_iff (os := os) hp.2
      show (inB u (max x.lo (t - x.w)) (min x.hi (t + x.w)) && inS (truS r q) os) = true ↔ _
      simp only [poseG, Bool.and_eq_true, ih]
      constructor
      · rintro ⟨h1, h2, h3⟩
        simp [inB] at h1
        refine ⟨⟨by simp [inB]; omega, h2⟩, fun j y t' u' hy ht hu => ?_⟩
        cases j with
        | zero => cases hy; cases ht; cases hu; omega
        | succ j => exact h3 j y t' u' hy ht hu
      · rintro ⟨⟨h1, h2⟩, h3⟩
        have := h3 0 x t u rfl rfl rfl
        simp [inB] at h1
        exact ⟨by simp [inB]; omega, h2, fun j y t' u' hy ht hu => h3 (j + 1) y t' u' hy ht hu⟩
  | [], _ :: _, _, h => by cases h
  | _ :: _, [], _, h => by cases h
theorem card_tru : ∀ {ls : List Lb} {ps : List Int}, poseG ls ps = true → cardS (truS ls ps) ≤ cardS (spansG ls)
  | [], [], _ => Nat.le_refl _
  | x :: r, t :: q, h => by
    simp only [poseG, Bool.and_eq_true] at h
    show (min x.hi (t + x.w) + 1 - max x.lo (t - x.w)).toNat * cardS (truS r q) ≤ (x.hi + 1 - x.lo).toNat * cardS (spansG r)
    exact Nat.mul_le_mul (by omega) (card_tru h.2)
  | [], _ :: _, h => by cases h
  | _ :: _, [], h => by cases h
theorem spread_2000 {s : Int} {ls : List Lb} {ps : List Int} (hf : figB s ls = true) (hp : poseG ls ps = true) (n : Int) : (spreadG s ls ps n).length ≤ 2000 := by
  have h1 := puts_len (endL s ls n (truthsG ls ps))
  have h2 : (endL s ls n (truthsG ls ps)).length = (truthsG ls ps).length := by simp [endL]
  have h3 : (truthsG ls ps).length = cardS (truS ls ps) := exts_card _ _
  have h4 := card_tru hp
  have h5 := card_2000 hf
  unfold spreadG
  omega
theorem spread_mem {s : Int} {ls : List Lb} {ps : List Int} {n : Int} {l : List Int} (h : l ∈ truthsG ls ps) : endG1 s ls n l ∈ spreadG s ls ps n := by
  unfold spreadG
  rw [puts_mem]
  exact List.mem_map.2 ⟨l, h, rfl⟩
theorem sure_bd (T : List (List Int)) (p : List Int → Bool) : 1 ≤ sureI T p ∧ sureI T p ≤ 3 := by
  unfold sureI
  split
  · omega
  · split <;> omega
theorem sure_none {T : List (List Int)} {p : List Int → Bool} : sureI T p = 3 ↔ proofO T p = none := by
  rw [proof_none]
  unfold sureI
  constructor
  · intro h
    split at h
    · assumption
    · split at h <;> omega
  · intro h
    rw [if_pos h]
theorem sure_1 {T : List (List Int)} {p : List Int → Bool} (h : sureI T p = 1) {l : List Int} (hl : l ∈ T) : p l = false := by
  unfold sureI at h
  split at h
  · omega
  · split at h
    · rename_i h0
      have h0 := List.length_eq_zero_iff.1 h0
      rw [List.filter_eq_nil_iff] at h0
      simpa using h0 l hl
    · omega
end Go.Pv
