/- The plain law of two hands: whichever hand is named first; wider fields; the first fine pose. No program in sight. -/
import Derived.Test.YtmnocohggpmjcaaGreatDoorQoFine
set_option linter.all false
namespace Go.Pv

theorem fldB_iff (f : Fld) : fldB f = true ↔ (-1000 ≤ f.a ∧ f.a ≤ f.b ∧ f.b ≤ 1000 ∧ -1000 ≤ f.c ∧ f.c ≤ f.d ∧ f.d ≤ 1000) := by
  simp only [fldB, inB, Bool.and_eq_true, decide_eq_true_eq]
  omega
theorem lieG_iff (p : Pl) (f : Fld) : lieG p f = true ↔ (f.a ≤ p.1 ∧ p.1 ≤ f.b ∧ f.c ≤ p.2 ∧ p.2 ≤ f.d) := by
  simp only [lieG, inB, Bool.and_eq_true, decide_eq_true_eq]
  omega
theorem lie_wid {p : Pl} {f : Fld} {w : Int} (hf : fldB f = true) (hw : 0 ≤ w) (h : lieG p f = true) : lieG p (widG f w) = true := by
  rw [fldB_iff] at hf
  rw [lieG_iff] at h ⊢
  simp only [widG]
  omega
theorem fld_wid {f : Fld} {w : Int} (hf : fldB f = true) (hw : 0 ≤ w) : fldB (widG f w) = true := by
  rw [fldB_iff] at hf ⊢
  simp only [widG]
  omega
theorem fineG_x (s : Int) (ls : List Lb) (ps : List Int) (f f0 f1 : Fld) (p0 p1 : Pl) : fineG s ls ps f f1 f0 p1 p0 = fineG s ls ps f f0 f1 p0 p1 := by
  unfold fineG
  cases lieG p0 f0 <;> cases lieG p1 f1 <;> cases lieG p0 f1 <;> cases lieG p1 f0 <;> rfl
theorem fineG_y (s : Int) (ls : List Lb) (ps : List Int) (f f0 f1 : Fld) (p0 p1 : Pl) : fineG s ls ps f f0 f1 p1 p0 = fineG s ls ps f f0 f1 p0 p1 := by
  unfold fineG
  cases lieG p0 f0 <;> cases lieG p1 f1 <;> cases lieG p0 f1 <;> cases lieG p1 f0 <;> rfl
theorem fineG_z {s : Int} {ls : List Lb} {ps : List Int} {f f0 f1 : Fld} {p0 p1 : Pl} {w : Int} (hf : fldB f = true) (h0 : fldB f0 = true) (hw : 0 ≤ w) (h : fineG s ls ps f f0 f1 p0 p1 = true) : fineG s ls ps (widG f w) (widG f0 w) f1 p0 p1 = true := by
  unfold fineG at h ⊢
  rw [Bool.and_eq_true, Bool.or_eq_true, Bool.and_eq_true, Bool.and_eq_true, List.all_eq_true] at h ⊢
  refine ⟨fun p hp => lie_wid hf hw (h.1 p hp), ?_⟩
  rcases h.2 with ⟨a, b⟩ | ⟨a, b⟩
  · exact .inl ⟨lie_wid h0 hw a, b⟩
  · exact .inr ⟨a, lie_wid h0 hw b⟩

/-! ### The order of poses -/
theorem befG_app : ∀ (w a b : List Int), befG (w ++ a) (w ++ b) = befG a b
  | [], a, b => rfl
  | x :: w, a, b => by
    rw [List.cons_append, List.cons_append, befG_cc, if_pos rfl, befG_app w a b]
theorem befG_irr : ∀ a : List Int, befG a a = false
  | [] => rfl
  | x :: a => by rw [befG_cc, if_pos rfl, befG_irr a]
theorem befG_asy : ∀ a b : List Int, befG a b = true → befG b a = false
  | [], [], h => by cases h
  | [], _ :: _, _ => rfl
  | _ :: _, [], h => by cases h
  | x :: a, y :: b, h => by
    rw [befG_cc] at h ⊢
    split at h
    · rename_i e
      rw [if_pos e.symm]
      exact befG_asy a b h
    · rename_i e
      have hlt := of_decide_eq_true h
      rw [if_neg (fun e2 => e e2.symm)]
      exact decide_eq_false (by omega)
theorem exts_pre : ∀ (sp : List (Int × Int)) (now l : List Int), l ∈ exts sp now → ∃ q, l = now ++ q
  | [], now, l, h => ⟨[], by
    have : l ∈ [now] := h
    simpa using this⟩
  | x :: r, now, l, h => by
    have h : l ∈ (rng x.1 x.2).flatMap (fun n => exts r (now ++ [n])) := h
    obtain ⟨n, _, hl⟩ := List.mem_flatMap.1 h
    obtain ⟨q, rfl⟩ := exts_pre r _ _ hl
    exact ⟨n :: q, by simp⟩
theorem rng_pair (lo hi : Int) : (rng lo hi).Pairwise (· < ·) := by
  unfold rng
  rw [List.pairwise_map]
  refine List.Pairwise.imp ?_ List.pairwise_lt_range
  intro a b h
  omega
theorem exts_pair : ∀ (sp : List (Int × Int)) (now : List Int), (exts sp now).Pairwise fun a b => befG a b = true
  | [], now => List.pairwise_singleton _ _
  | x :: r, now => by
    show ((rng x.1 x.2).flatMap fun n => exts r (now ++ [n])).Pairwise _
    rw [List.pairwise_flatMap]
    refine ⟨fun n _ => exts_pair r _, (rng_pair x.1 x.2).imp fun {a b} hab p hp q hq => ?_⟩
    obtain ⟨p', rfl⟩ := exts_pre r _ _ hp
    obtain ⟨q', rfl⟩ := exts_pre r _ _ hq
    rw [List.append_assoc, List.append_assoc, befG_app]
    show befG (a :: p') (b :: q') = true
    rw [befG_cc, if_neg (by omega)]
    exact decide_eq_true hab
theorem first_least {p : List Int → Bool} {sp : List (Int × Int)} {now l ps : List Int} {r : List (List Int)} (h : (exts sp now).filter p = l :: r) (hm : ps ∈ exts sp now) (hp : p ps = true) : befG ps l = false := by
  have hin : ps ∈ l :: r := by rw [← h]; exact List.mem_filter.2 ⟨hm, hp⟩
  have hpw : (l :: r).Pairwise fun a b => befG a b = true := by rw [← h]; exact (exts_pair sp now).sublist List.filter_sublist
  rcases List.mem_cons.1 hin with rfl | hr
  · exact befG_irr _
  · exact befG_asy _ _ ((List.pairwise_cons.1 hpw).1 _ hr)
theorem fines_first {s : Int} {ls : List Lb} {g : Stg} {l ps : List Int} {r : List (List Int)} (h : finesG s ls g = l :: r) (hp : poseG ls ps = true) (hf : finG s ls g ps = true) : befG ps l = false :=
  first_least h (mem_poses.2 hp) hf
theorem fines_ne {s : Int} {ls : List Lb} {g : Stg} {ps : List Int} (hp : poseG ls ps = true) (hf : finG s ls g ps = true) : finesG s ls g ≠ [] := fun h => by
  have : ps ∈ finesG s ls g := List.mem_filter.2 ⟨mem_poses.2 hp, hf⟩
  rw [h] at this
  cases this
theorem fines_mono {s : Int} {ls : List Lb} {g g' : Stg} (h : ∀ ps, finG s ls g ps = true → finG s ls g' ps = true) : (finesG s ls g).length ≤ (finesG s ls g').length := by
  unfold finesG
  rw [← List.countP_eq_length_filter, ← List.countP_eq_length_filter]
  exact List.countP_mono_left fun x _ hx => h x hx
end Go.Pv
