/- The plain law of two hands: whichever hand is named first; wider fields; the first fine pose. No program in sight. -/
import Derived.Test.YtmnocohggpmjcaaGreatDoorQoFine
set_option linter.all false
namespace Go.Pv
theorem befG_app : ∀ (w a b : List Int), befG (w ++ a) (w ++ b) = befG a b
  | [], a, b => rfl
  | x :: w, a, b => by
    rw [List.cons_append, List.cons_append, befG_cc, if_pos rfl, befG_app w a b]
theorem befG_irr : ∀ a : List Int, befG a a = false
  | [] => rfl
  | x :: a => by rw [befG_cc, if_pos rfl, befG_irr a]
theorem befG_asy : ∀ a b : List Int, befG a b = true → befG b a = false
  | [], [], h => by cases h
  | [], _ :: _, _ => rfl
  | _ :: _, [], h => by cases h
  | x :: a, y :: b, h => by
    rw [befG_cc] at h ⊢
    split at h
    · rename_i e
      rw [if_pos e.symm]
      exact befG_asy a b h
    · rename_i e
      have hlt := of_decide_eq_true h
      rw [if_neg (fun e2 => e e2.symm)]
      exact decide_eq_false (by omega)
theorem exts_pre : ∀ (sp : List (Int × Int)) (now l : List Int), l ∈ exts sp now → ∃ q, l = now ++ q
  | [], now, l, h => ⟨[], by
    have : l ∈ [now] := h
    simpa using this⟩
  | x :: r, now, l, h => by
    have h : l ∈ (rng x.1 x.2).flatMap (fun n => exts r (now ++ [n])) := h
    obtain ⟨n, _, hl⟩ := List.mem_flatMap.1 h
    obtain ⟨q, rfl⟩ := exts_pre r _ _ hl
    exact ⟨n :: q, by simp⟩
theorem rng_pair (lo hi : Int) : (rng lo hi).Pairwise (· < ·) := by
  unfold rng
  rw [List.pairwise_map]
  refine List.Pairwise.imp ?_ List.pairwise_lt_range
  intro a b h
  omega
theorem exts_pair : ∀ (sp : List (Int × Int)) (now : List Int), (exts sp now).Pairwise fun a b => befG a b = true
  | [], now => List.pairwise_singleton _ _
  | x :: r, now => by
    show ((rng x.1 x.2).flatMap fun n => exts r (now ++ [n])).Pairwise _
    rw [List.pairwise_flatMap]
    refine ⟨fun n _ => exts_pair r _, (rng_pair x.1 x.2).imp fun {a b} hab p hp q hq => ?_⟩
    obtain ⟨p', rfl⟩ := exts_pre r _ _ hp
    obtain ⟨q', rfl⟩ := exts_pre r _ _ hq
    rw [List.append_assoc, List.append_assoc, befG_app]
    show befG (a :: p') (b :: q') = true
    rw [befG_cc, if_neg (by omega)]
    exact decide_eq_true hab
end Go.Pv
