/- Ways, in plain terms: turns go both ways; the search is complete; from what was met a turn leads nearer. -/
import Derived.Test.YtmnocohggpmjcaaGreatDoorQyFar
import Derived.Test.YtmnocohggpmjcaaGreatDoorQyPath
import Derived.Test.YtmnocohggpmjcaaGreatDoorQvKnown
set_option linter.all false
namespace Go.Pv
open Go Go.RowKit Go.Proofs
theorem trn_getD {l : List Int} {t : Int × Int} (h : t.1.toNat < l.length) : (trnG l t).getD t.1.toNat 0 = l.getD t.1.toNat 0 + t.2 := by
  unfold trnG
  rw [List.getD_eq_getElem?_getD, List.getElem?_set_self h]
  rfl
/-- A turn back. -/
theorem trn_back {l : List Int} {t : Int × Int} (h : t.1.toNat < l.length) : trnG (trnG l t) (t.1, -t.2) = l := by
  have e := trn_getD h
  show (trnG l t).set t.1.toNat ((trnG l t).getD t.1.toNat 0 + -t.2) = l
  rw [e]
  unfold trnG
  rw [List.set_set, show l.getD t.1.toNat 0 + t.2 + -t.2 = l.getD t.1.toNat 0 by omega]
  refine List.ext_getElem? fun i => ?_
  rw [List.getElem?_set]
  split
  · rename_i hi
    subst hi
    rw [List.getD_eq_getElem?_getD, List.getElem?_eq_getElem h]
    simp [h]
  · rfl
theorem nb_sym {s : Int} {ls : List Lb} {g : Stg} {p q : List Int} (hp : poseG ls p = true) (hf : finG s ls g p = true) (h : q ∈ nbG s ls g p) : p ∈ nbG s ls g q := by
  obtain ⟨t, ht, rfl, _, _⟩ := nb_mem.1 h
  obtain ⟨h1, h2, h3⟩ := mem_cand.1 ht
  have hl := (pose_at hp).1
  refine nb_mem.2 ⟨(t.1, -t.2), mem_cand.2 ⟨h1, h2, by simp only; omega⟩, (trn_back (by omega)).symm, hp, hf⟩
section
variable {s : Int} {ls : List Lb} {g : Stg} {b : List Int}
theorem away_fine (hb : finG s ls g b = true) (i : Nat) : ∀ x ∈ awayQ s ls g b i, finG s ls g x.1 = true :=
  bfs_all (p := fun l => finG s ls g l = true) (fun x hx => by simp at hx; subst hx; exact hb) (fun x hx y hy => by obtain ⟨t, _, _, _, h⟩ := nb_mem.1 hy; exact h) i
theorem away_closedQ {i k : Nat} (hk : k < i) {x : List Int × Nat} (hx : (awayQ s ls g b i)[k]? = some x) {y : List Int} (hy : y ∈ nbG s ls g x.1) : ∃ e, (y, e) ∈ awayQ s ls g b i ∧ e ≤ x.2 + 1 := bfs_closed (nb := nbG s ls g) (f := b) hk hx hy
theorem away_predQ (i : Nat) {x : List Int × Nat} (hx : x ∈ awayQ s ls g b i) (h0 : 0 < x.2) : ∃ y, (y, x.2 - 1) ∈ awayQ s ls g b i ∧ x.1 ∈ nbG s ls g y := by
  rcases bfs_pred (nb := nbG s ls g) (f := b) i hx with h | ⟨y, h1, h2, _⟩
  · rw [h] at h0; exact absurd h0 (by simp)
  · exact ⟨y, h1, h2⟩
theorem away_closed (hf : figB s ls = true) (hp : poseG ls b = true) {x : List Int × Nat} (hx : x ∈ awayG s ls g b) {y : List Int} (hy : y ∈ nbG s ls g x.1) : ∃ e, (y, e) ∈ awayG s ls g b ∧ e ≤ x.2 + 1 := by
  obtain ⟨k, hk⟩ := List.getElem?_of_mem hx
  have hl := away_len (s := s) (ls := ls) (g := g) (f := b) hf hp 60000
  have hlt := (List.getElem?_eq_some_iff.1 hk).1
  unfold awayG at hk hlt ⊢
  generalize hn : (60000 : Nat) = n at hk hlt hl ⊢
  exact away_closedQ (by omega) hk hy
theorem away_pred {x : List Int × Nat} (hx : x ∈ awayG s ls g b) (h0 : 0 < x.2) : ∃ y, (y, x.2 - 1) ∈ awayG s ls g b ∧ x.1 ∈ nbG s ls g y := by
  unfold awayG at hx ⊢
  exact away_predQ _ hx h0
theorem awayG_nodup : ((awayG s ls g b).map Prod.fst).Nodup := by unfold awayG; exact away_nodup _
theorem awayG_pose (hp : poseG ls b = true) : ∀ x ∈ awayG s ls g b, poseG ls x.1 = true := by unfold awayG; exact away_pose hp _
theorem awayG_fine (hb : finG s ls g b = true) : ∀ x ∈ awayG s ls g b, finG s ls g x.1 = true := by unfold awayG; exact away_fine hb _
/-- A search that is complete. -/
structure Srch (s : Int) (ls : List Lb) (g : Stg) (Q : Dst) : Prop where
  nd : (Q.map Prod.fst).Nodup
  pose : ∀ x ∈ Q, poseG ls x.1 = true
  fine : ∀ x ∈ Q, finG s ls g x.1 = true
  pred : ∀ x ∈ Q, 0 < x.2 → ∃ y, (y, x.2 - 1) ∈ Q ∧ x.1 ∈ nbG s ls g y
  next : ∀ x ∈ Q, ∀ y ∈ nbG s ls g x.1, ∃ e, (y, e) ∈ Q ∧ e ≤ x.2 + 1
theorem away_srch (hf : figB s ls = true) (hp : poseG ls b = true) (hb : finG s ls g b = true) : Srch s ls g (awayG s ls g b) :=
  ⟨awayG_nodup, awayG_pose hp, awayG_fine hb, fun _ hx h => away_pred hx h, fun _ hx _ hy => away_closed hf hp hx hy⟩
end
section
variable {s : Int} {ls : List Lb} {g : Stg} {Q : Dst}
theorem dG_mem (H : Srch s ls g Q) {l : List Int} {d : Nat} (h : (l, d) ∈ Q) : dG Q l = (d : Int) ∧ dI Q l = (d : Int) := by
  have := (dO_some H.nd).2 h
  unfold dG dI
  rw [this]
  exact ⟨rfl, rfl⟩
end
end Go.Pv
namespace Go.Pv
open Go Go.RowKit Go.Proofs
set_option maxRecDepth 200000
set_option maxHeartbeats 8000000
end Go.Pv
namespace Go.Pv
open Go Go.RowKit Go.Proofs
set_option maxRecDepth 10000
set_option maxHeartbeats 4000000
theorem trsP_z (l : List (Int × Int)) : ∃ z, trsP l = .sl z (l.map encT) ∧ zOk z (l.map encT) = true := by
  refine ⟨_, rfl, ?_⟩
  cases l <;> rfl
def c42 : List PV → List Box → Option (PRes × List Box)
  | [v, w, p, q], sg => match decFig v, decStg w, decIs1 p, decIs1 q with
    | some (s, ls), some g, some a, some b => some (.ret (pathR s ls g a b), sg)
    | _, _, _, _ => none
  | _, _ => none
theorem c42_ok : ConOk Tryz.prog 42 c42 := ConOk.of0 (ent Tryz.func42 rfl) fun args sg r sg' h => by
  unfold c42 at h
  split at h <;> try (cases h; done)
  split at h <;> cases h
  rename_i h1 h2 h3 h4
  obtain ⟨z, rfl, hz⟩ := decFig_inv h1
  obtain ⟨zh, zr, rfl, hh, hr⟩ := decStg_inv h2
  obtain ⟨zp, rfl, hp⟩ := decIs1_inv h3
  obtain ⟨zq, rfl, hq⟩ := decIs1_inv h4
  exact ⟨_, rfl, rfl, by rw [ltBL_cons, ltB_fig, ltBL_cons, ltB_stg, ltBL_cons, ltB_isl, ltBL_cons, ltB_isl]; rfl, Path_42 _ _ _ _ _ _ _ _ _ _ (zOk_n' hz) hh hr (zOk_n' hp) (zOk_n' hq)⟩
end Go.Pv
