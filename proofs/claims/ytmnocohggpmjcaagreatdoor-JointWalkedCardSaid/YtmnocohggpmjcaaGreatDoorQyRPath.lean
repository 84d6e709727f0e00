/- Ways, in plain terms: turns go both ways; the search is complete; from what was met a turn leads nearer. -/
import Derived.Test.YtmnocohggpmjcaaGreatDoorQyFar
import Derived.Test.YtmnocohggpmjcaaGreatDoorQyPath
import Derived.Test.YtmnocohggpmjcaaGreatDoorQvKnown
set_option linter.all false
namespace Go.Pv
open Go Go.RowKit Go.Proofs
theorem trn_getD {l : List Int} {t : Int × Int} (h : t.1.toNat < l.length) : (trnG l t).getD t.1.toNat 0 = l.getD t.1.toNat 0 + t.2 := by
  unfold trnG
  rw [List.getD_eq_getElem?_getD, List.getElem?_set_self h]
  rfl
/-- A turn back. -/
theorem trn_back {l : List Int} {t : Int × Int} (h : t.1.toNat < l.length) : trnG (trnG l t) (t.1, -t.2) = l := by
  have e := trn_getD h
  show (trnG l t).set t.1.toNat ((trnG l t).getD t.1.toNat 0 + -t.2) = l
  rw [e]
  unfold trnG
  rw [List.set_set, show l.getD t.1.toNat 0 + t.2 + -t.2 = l.getD t.1.toNat 0 by omega]
  refine List.ext_getElem? fun i => ?_
  rw [List.getElem?_set]
  split
  · rename_i hi
    subst hi
    rw [List.getD_eq_getElem?_getD, List.getElem?_eq_getElem h]
    simp [h]
  · rfl
theorem nb_sym {s : Int} {ls : List Lb} {g : Stg} {p q : List Int} (hp : poseG ls p = true) (hf : finG s ls g p = true) (h : q ∈ nbG s ls g p) : p ∈ nbG s ls g q := by
  obtain ⟨t, ht, rfl, _, _⟩ := nb_mem.1 h
  obtain ⟨h1, h2, h3⟩ := mem_cand.1 ht
  have hl := (pose_at hp).1
  refine nb_mem.2 ⟨(t.1, -t.2), mem_cand.2 ⟨h1, h2, by simp only; omega⟩, (trn_back (by omega)).symm, hp, hf⟩
section
variable {s : Int} {ls : List Lb} {g : Stg} {b : List Int}
theorem away_fine (hb : finG s ls g b = true) (i : Nat) : ∀ x ∈ awayQ s ls g b i, finG s ls g x.1 = true :=
  bfs_all (p := fun l => finG s ls g l = true) (fun x hx => by simp at hx; subst hx; exact hb) (fun x hx y hy => by obtain ⟨t, _, _, _, h⟩ := nb_mem.1 hy; exact h) i
theorem away_closedQ {i k : Nat} (hk : k < i) {x : List Int × Nat} (hx : (awayQ s ls g b i)[k]? = some x) {y : List Int} (hy : y ∈ nbG s ls g x.1) : ∃ e, (y, e) ∈ awayQ s ls g b i ∧ e ≤ x.2 + 1 := bfs_closed (nb := nbG s ls g) (f := b) hk hx hy
theorem away_predQ (i : Nat) {x : List Int × Nat} (hx : x ∈ awayQ s ls g b i) (h0 : 0 < x.2) : ∃ y, (y, x.2 - 1) ∈ awayQ s ls g b i ∧ x.1 ∈ nbG s ls g y := by
  rcases bfs_pred (nb := nbG s ls g) (f := b) i hx with h | ⟨y, h1, h2, _⟩
  · rw [h] at h0; exact absurd h0 (by simp)
  · exact ⟨y, h1, h2⟩
theorem away_closed (hf : figB s ls = true) (hp : poseG ls b = true) {x : List Int × Nat} (hx : x ∈ awayG s ls g b) {y : List Int} (hy : y ∈ nbG s ls g x.1) : ∃ e, (y, e) ∈ awayG s ls g b ∧ e ≤ x.2 + 1 := by
  obtain ⟨k, hk⟩ := List.getElem?_of_mem hx
  have hl := away_len (s := s) (ls := ls) (g := g) (f := b) hf hp 60000
  have hlt := (List.getElem?_eq_some_iff.1 hk).1
  unfold awayG at hk hlt ⊢
  generalize hn : (60000 : Nat) = n at hk hlt hl ⊢
  exact away_closedQ (by omega) hk hy
theorem away_pred {x : List Int × Nat} (hx : x ∈ awayG s ls g b) (h0 : 0 < x.2) : ∃ y, (y, x.2 - 1) ∈ awayG s ls g b ∧ x.1 ∈ nbG s ls g y := by
  unfold awayG at hx ⊢
  exact away_predQ _ hx h0
theorem awayG_nodup : ((awayG s ls g b).map Prod.fst).Nodup := by unfold awayG; exact away_nodup _
theorem awayG_pose (hp : poseG ls b = true) : ∀ x ∈ awayG s ls g b, poseG ls x.1 = true := by unfold awayG; exact away_pose hp _
theorem awayG_fine (hb : finG s ls g b = true) : ∀ x ∈ awayG s ls g b, finG s ls g x.1 = true := by unfold awayG; exact away_fine hb _
/-- A search that is complete. -/
structure Srch (s : Int) (ls : List Lb) (g : Stg) (Q : Dst) : Prop where
  nd : (Q.map Prod.fst).Nodup
  pose : ∀ x ∈ Q, poseG ls x.1 = true
  fine : ∀ x ∈ Q, finG s ls g x.1 = true
  pred : ∀ x ∈ Q, 0 < x.2 → ∃ y, (y, x.2 - 1) ∈ Q ∧ x.1 ∈ nbG s ls g y
  next : ∀ x ∈ Q, ∀ y ∈ nbG s ls g x.1, ∃ e, (y, e) ∈ Q ∧ e ≤ x.2 + 1
theorem away_srch (hf : figB s ls = true) (hp : poseG ls b = true) (hb : finG s ls g b = true) : Srch s ls g (awayG s ls g b) :=
  ⟨awayG_nodup, awayG_pose hp, awayG_fine hb, fun _ hx h => away_pred hx h, fun _ hx _ hy => away_closed hf hp hx hy⟩
end
section
variable {s : Int} {ls : List Lb} {g : Stg} {Q : Dst}
theorem dG_mem (H : Srch s ls g Q) {l : List Int} {d : Nat} (h : (l, d) ∈ Q) : dG Q l = (d : Int) ∧ dI Q l = (d : Int) := by
  have := (dO_some H.nd).2 h
  unfold dG dI
  rw [this]
  exact ⟨rfl, rfl⟩
/-- From what was met a turn leads nearer. -/
theorem near_of (H : Srch s ls g Q) {now : List Int} (hn : hasK Q now = true) (h0 : 0 < dG Q now) :
    ∃ t ∈ candG ls.length, poseG ls (trnG now t) = true ∧ dI Q (trnG now t) = dI Q now - 1 := by
  obtain ⟨d, hd⟩ := hasK_iff.1 hn
  obtain ⟨e1, e2⟩ := dG_mem H hd
  rw [e1] at h0
  obtain ⟨y, hy, hyn⟩ := H.pred _ hd (show 0 < d by omega)
  obtain ⟨_, e4⟩ := dG_mem H hy
  have hsym := nb_sym (H.pose _ hy) (H.fine _ hy) hyn
  obtain ⟨t, ht, e, h1, h2⟩ := nb_mem.1 hsym
  refine ⟨t, ht, by rw [← e]; exact h1, ?_⟩
  rw [← e, e2, e4]
  show ((d - 1 : Nat) : Int) = (d : Int) - 1
  omega
/-- The turn that is taken is told in either way. -/
theorem okT_dI (H : Srch s ls g Q) {now : List Int} (hn : hasK Q now = true) (h0 : 0 < dG Q now) {t : Int × Int} (ht : t ∈ candG ls.length) :
    (okT s ls g now t && decide (dG Q (trnG now t) = dG Q now - 1)) = (poseG ls (trnG now t) && decide (dI Q (trnG now t) = dI Q now - 1)) := by
  have hdi := dI_dG hn
  obtain ⟨d, hd⟩ := hasK_iff.1 hn
  rw [Bool.eq_iff_iff]
  unfold okT
  simp only [Bool.and_eq_true, decide_eq_true_eq]
  constructor
  · rintro ⟨⟨h1, h2⟩, h3⟩
    have hnb : trnG now t ∈ nbG s ls g now := nb_mem.2 ⟨t, ht, rfl, h1, h2⟩
    obtain ⟨e, he, _⟩ := H.next _ hd _ hnb
    have hk : hasK Q (trnG now t) = true := hasK_iff.2 ⟨e, he⟩
    exact ⟨h1, by rw [dI_dG hk, hdi]; exact h3⟩
  · rintro ⟨h1, h3⟩
    have hk : hasK Q (trnG now t) = true := by
      have := dI_neg (Q := Q) (q := trnG now t)
      rw [h3, hdi, decide_eq_false (by omega)] at this
      cases hh : hasK Q (trnG now t) with
      | true => rfl
      | false => rw [hh] at this; cases this
    obtain ⟨e, he⟩ := hasK_iff.1 hk
    have h2 := H.fine _ he
    exact ⟨⟨h1, h2⟩, by rw [← dI_dG hk, ← hdi]; exact h3⟩
end
theorem find_congr {α : Type} {p q : α → Bool} : ∀ {l : List α}, (∀ a ∈ l, p a = q a) → l.find? p = l.find? q
  | [], _ => rfl
  | a :: l, h => by
    rw [List.find?_cons, List.find?_cons, h a (List.mem_cons_self ..), find_congr fun x hx => h x (List.mem_cons_of_mem _ hx)]
theorem find_filter_map {α β : Type} (r : α → Bool) (f : α → β) (p : β → Bool) : ∀ (l : List α), ((l.filter r).map f).find? p = (l.find? fun a => r a && p (f a)).map f
  | [] => rfl
  | a :: l => by
    rw [List.filter_cons, List.find?_cons]
    have ih := find_filter_map r f p l
    cases hr : r a with
    | true =>
      rw [if_pos rfl, List.map_cons, List.find?_cons, Bool.true_and]
      cases hp : p (f a) with
      | true => rfl
      | false => exact ih
    | false =>
      rw [if_neg (by simp), Bool.false_and]
      exact ih
/-- The first turn that leads nearer, as the reference looks for it. -/
def firT (ls : List Lb) (Q : Dst) (now : List Int) (t : Int × Int) : Bool := poseG ls (trnG now t) && decide (dI Q (trnG now t) = dI Q now - 1)
theorem path_succ {s : Int} {ls : List Lb} {g : Stg} {Q : Dst} (H : Srch s ls g Q) {now : List Int} (hn : hasK Q now = true) (h0 : 0 < dG Q now) {j : Nat} {t : Int × Int} (hj : (candG ls.length)[j]? = some t) (ht : firT ls Q now t = true)
    (hb4 : ∀ (k : Nat) (u : Int × Int), k < j → (candG ls.length)[k]? = some u → firT ls Q now u = false) (n : Nat) :
    pathL s ls g Q (n + 1) now = t :: pathL s ls g Q n (trnG now t) := by
  have h1 : (nextG s ls g now).find? (fun x => decide (dG Q x.2 = dG Q now - 1)) = some (t, trnG now t) := by
    unfold nextG
    rw [find_filter_map, find_congr (q := firT ls Q now) fun u hu => okT_dI H hn h0 hu]
    have : (candG ls.length).find? (firT ls Q now) = some t := by
      rw [List.find?_eq_some_iff_getElem]
      obtain ⟨l1, e1⟩ := List.getElem?_eq_some_iff.1 hj
      refine ⟨ht, j, l1, e1, fun k hk => ?_⟩
      rw [hb4 k _ hk (List.getElem?_eq_getElem (by omega))]; rfl
    rw [this]; rfl
  show (match (nextG s ls g now).find? _ with | some x => _ | none => _) = _
  rw [h1]
end Go.Pv
namespace Go.Pv
open Go Go.RowKit Go.Proofs
set_option maxRecDepth 200000
set_option maxHeartbeats 8000000
end Go.Pv
namespace Go.Pv
open Go Go.RowKit Go.Proofs
set_option maxRecDepth 10000
set_option maxHeartbeats 4000000
def decT : PV → Option (Int × Int)
  | .agg [.int .i64 a, .int .i64 b] => some (a, b)
  | _ => none
theorem decT_inv (x : PV) (a : Int × Int) (h : decT x = some a) : x = encT a := by
  unfold decT at h
  split at h <;> cases h
  rfl
theorem decTs (l : List (Int × Int)) : decL decT (l.map encT) = some l := decL_map (g := encT) (fun _ => rfl) l
def decTs1 : PV → Option (List (Int × Int))
  | .sl z es => if zOk z es = true then decL decT es else none
  | _ => none
theorem decTs1_inv {v : PV} {l : List (Int × Int)} (h : decTs1 v = some l) : ∃ z, v = .sl z (l.map encT) ∧ (z = .n → l = []) := by
  unfold decTs1 at h
  split at h <;> try (cases h; done)
  split at h <;> try (cases h; done)
  rename_i z es hz
  obtain rfl := decL_inv decT_inv h
  refine ⟨z, rfl, fun e => ?_⟩
  subst e
  exact zOk_map hz rfl
theorem decTs1_enc {z : Z} {l : List (Int × Int)} (h : zOk z (l.map encT) = true) : decTs1 (.sl z (l.map encT)) = some l := by
  show (if zOk z (l.map encT) = true then decL decT (l.map encT) else none) = some l
  rw [if_pos h]
  exact decTs l
theorem trsP_z (l : List (Int × Int)) : ∃ z, trsP l = .sl z (l.map encT) ∧ zOk z (l.map encT) = true := by
  refine ⟨_, rfl, ?_⟩
  cases l <;> rfl
def c42 : List PV → List Box → Option (PRes × List Box)
  | [v, w, p, q], sg => match decFig v, decStg w, decIs1 p, decIs1 q with
    | some (s, ls), some g, some a, some b => some (.ret (pathR s ls g a b), sg)
    | _, _, _, _ => none
  | _, _ => none
theorem c42_ok : ConOk Tryz.prog 42 c42 := ConOk.of0 (ent Tryz.func42 rfl) fun args sg r sg' h => by
  unfold c42 at h
  split at h <;> try (cases h; done)
  split at h <;> cases h
  rename_i h1 h2 h3 h4
  obtain ⟨z, rfl, hz⟩ := decFig_inv h1
  obtain ⟨zh, zr, rfl, hh, hr⟩ := decStg_inv h2
  obtain ⟨zp, rfl, hp⟩ := decIs1_inv h3
  obtain ⟨zq, rfl, hq⟩ := decIs1_inv h4
  exact ⟨_, rfl, rfl, by rw [ltBL_cons, ltB_fig, ltBL_cons, ltB_stg, ltBL_cons, ltB_isl, ltBL_cons, ltB_isl]; rfl, Path_42 _ _ _ _ _ _ _ _ _ _ (zOk_n' hz) hh hr (zOk_n' hp) (zOk_n' hq)⟩
end Go.Pv
