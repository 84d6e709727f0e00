/- Ways in plain terms: the way has as many turns as are told; in a wider stage it is no longer; the way back is as long. -/
import Derived.Test.YtmnocohggpmjcaaGreatDoorQyRPath
import Derived.Test.YtmnocohggpmjcaaGreatDoorQpHands
set_option linter.all false
namespace Go.Pv
open Go Go.RowKit Go.Proofs
section
variable {s : Int} {ls : List Lb} {g : Stg} {b : List Int}
theorem away_startQ : ∀ i, (b, 0) ∈ awayQ s ls g b i
  | 0 => List.mem_singleton.2 rfl
  | i + 1 => by
    obtain ⟨r, hr⟩ := bfs_succ (nb := nbG s ls g) (Q0 := [(b, 0)]) i
    have e : awayQ s ls g b (i + 1) = awayQ s ls g b i ++ r := hr
    rw [e]
    exact List.mem_append_left _ (away_startQ i)
theorem away_start : (b, 0) ∈ awayG s ls g b := by unfold awayG; exact away_startQ _
theorem away_zeroQ (i : Nat) {x : List Int × Nat} (hx : x ∈ awayQ s ls g b i) (h : x.2 = 0) : x.1 = b := by
  rcases bfs_pred (nb := nbG s ls g) (f := b) i hx with h1 | ⟨_, _, _, h3⟩
  · rw [h1]
  · omega
theorem away_zero {x : List Int × Nat} (hx : x ∈ awayG s ls g b) (h : x.2 = 0) : x.1 = b := by
  unfold awayG at hx
  exact away_zeroQ _ hx h
end
section
variable {s : Int} {ls : List Lb} {g : Stg} {Q : Dst}
/-- The first turn that leads nearer. -/
theorem first_of (H : Srch s ls g Q) {now : List Int} (hn : hasK Q now = true) (h0 : 0 < dG Q now) :
    ∃ (j : Nat) (t : Int × Int), (candG ls.length)[j]? = some t ∧ firT ls Q now t = true ∧ ∀ (k : Nat) (u : Int × Int), k < j → (candG ls.length)[k]? = some u → firT ls Q now u = false := by
  obtain ⟨t0, h1, h2, h3⟩ := near_of H hn h0
  cases hfd : (candG ls.length).find? (firT ls Q now) with
  | none =>
    rw [List.find?_eq_none] at hfd
    exact absurd (show firT ls Q now t0 = true from by unfold firT; rw [h2, h3]; simp) (hfd t0 h1)
  | some t =>
    obtain ⟨e1, j, l1, e2, e3⟩ := List.find?_eq_some_iff_getElem.1 hfd
    refine ⟨j, t, by rw [List.getElem?_eq_getElem l1, e2], e1, fun k u hku hu => ?_⟩
    obtain ⟨l2, e4⟩ := List.getElem?_eq_some_iff.1 hu
    have := e3 k hku
    rw [e4] at this
    simpa using this
theorem firT_next (H : Srch s ls g Q) {now : List Int} (hn : hasK Q now = true) (h0 : 0 < dG Q now) {t : Int × Int} (ht : firT ls Q now t = true) :
    poseG ls (trnG now t) = true ∧ hasK Q (trnG now t) = true ∧ dG Q (trnG now t) = dG Q now - 1 := by
  unfold firT at ht
  rw [Bool.and_eq_true] at ht
  have h2 : dI Q (trnG now t) = dI Q now - 1 := of_decide_eq_true ht.2
  have h1 := dI_dG hn
  have hk : hasK Q (trnG now t) = true := by
    have := dI_neg (Q := Q) (q := trnG now t)
    rw [h2, decide_eq_false (by omega)] at this
    cases hh : hasK Q (trnG now t) with
    | true => rfl
    | false => rw [hh] at this; cases this
  exact ⟨ht.1, hk, by rw [← dI_dG hk, h2, h1]⟩
/-- The way has as many turns as are told. -/
theorem path_len (H : Srch s ls g Q) : ∀ (n : Nat) (now : List Int), hasK Q now = true → dG Q now = (n : Int) → (pathL s ls g Q n now).length = n
  | 0, _, _, _ => rfl
  | n + 1, now, hn, hd => by
    obtain ⟨j, t, h1, h2, h3⟩ := first_of H hn (by omega)
    rw [path_succ H hn (by omega) h1 h2 h3 n, List.length_cons]
    obtain ⟨_, h4, h5⟩ := firT_next H hn (by omega) h2
    rw [path_len H n _ h4 (by omega)]
end
end Go.Pv
