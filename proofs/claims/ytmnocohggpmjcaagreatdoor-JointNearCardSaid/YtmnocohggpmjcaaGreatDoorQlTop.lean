/- The pure-value layer, part 48: calls that leave a row of their own, among whatever boxes. -/
import Derived.Test.YtmnocohggpmjcaaGreatDoorQlIter
import Derived.Test.YtmnocohggpmjcaaGreatDoorQlLoop
set_option linter.all false
namespace Go.Pv
open Go Go.RowKit
theorem CallOk.rowAt {P : Program} {f : FuncId} {args : List PV} {e : TypeId} {k : Nat} {es : List PV} (h : CallOk P f args [] (.ret (.ms 0 es.length)) [.row false e k es false]) (hlt : ∀ x ∈ args, Lt 0 x) (hcl : ∀ x ∈ es, Lt 0 x) (sg : List Box) :
    CallOk P f args sg (.ret (.ms sg.length es.length)) (sg ++ [.row false e k es false]) := by
  refine ⟨by simp, fun n G w us hR hL => ?_⟩
  have hR1 : Rel (G.push .dead) (sg ++ [.dead]) w := push_dead hR
  have hfree : free (sg ++ [Box.dead]) sg.length := by
    unfold free
    rw [List.getElem?_append_right (Nat.le_refl _)]; simp
  refine CallsIn.mono (h.frameRow hlt hcl hR1 (hL.push .dead) (n := n) hfree) fun x w' ⟨G', u, hx, hR', hl, hdf, hm⟩ => ?_
  subst hx
  refine ⟨G', ?_, (Gh.le_trans (G.push_le .dead) hl).leM _, hdf, hm⟩
  have : (sg ++ [Box.dead]).set sg.length (.row false e k es false) = sg ++ [.row false e k es false] := by
    rw [List.set_append_right _ _ (Nat.le_refl _)]; simp
  rw [this] at hR'
  exact hR'
/-- A contract that is told where there are no boxes, among whatever boxes. -/
def conRow (c : List PV → List Box → Option (PRes × List Box)) (args : List PV) (sg : List Box) : Option (PRes × List Box) :=
  match c args [] with
  | some (.ret (.ms 0 n), [.row false e k es false]) => if n = es.length ∧ closedL es = true ∧ ltBL 0 args = true then some (.ret (.ms sg.length n), sg ++ [.row false e k es false]) else none
  | some (.ret v, []) => if ltBL 0 args = true then some (.ret v, sg) else none
  | _ => none
theorem ConOk.row {P : Program} {f : FuncId} {c : List PV → List Box → Option (PRes × List Box)} (h : ConOk P f c) : ConOk P f (conRow c) := fun args sg r sg' e => by
  unfold conRow at e
  split at e
  · rename_i hc
    split at e <;> cases e
    rename_i hh
    obtain ⟨rfl, h2, h3⟩ := hh
    obtain ⟨a, b, _⟩ := h _ _ _ _ hc
    exact ⟨a, b.rowAt (lt_of_ltBL 0 _ h3) (lt_of_closedL _ h2) sg, (SameLoops.refl sg).app [_] rfl⟩
  · rename_i hc
    split at e <;> cases e
    rename_i hh
    obtain ⟨a, b, _⟩ := h _ _ _ _ hc
    exact ⟨a, b.frame (lt_of_ltBL 0 _ hh) _, SameLoops.refl _⟩
  · cases e
end Go.Pv
namespace Go.Pv
open Go Go.RowKit
theorem top_rel {G : Gh} {A C : List Box} {b : Box} {w : World} (hR : Rel G (A ++ C ++ [b]) w) (hA : ∀ x ∈ A, x.Lt A.length) (hb : b.Lt A.length) :
    ∃ G', Rel G' (A ++ [b]) w ∧ Gh.leM A.length G G' ∧ G'.rho[A.length]? = G.rho[(A ++ C).length]? ∧ (∀ v u, Pv.Lt A.length v → Rep G v u → Rep G' v u) ∧ G'.dfr = G.dfr ∧ (∀ id, id < A.length → G'.rho[id]? = G.rho[id]?) := by
  have hlen : G.rho.length = (A ++ C).length + 1 := by rw [hR.len]; simp; omega
  have hAl : A.length ≤ (A ++ C).length := by simp
  obtain ⟨sN, hsN⟩ : ∃ s, G.rho[(A ++ C).length]? = some s := ⟨_, List.getElem?_eq_getElem (by omega)⟩
  have htl : (G.rho.take A.length).length = A.length := by rw [List.length_take]; omega
  have low : ∀ id, id < A.length → (G.rho.take A.length ++ [sN])[id]? = G.rho[id]? := fun id h => by
    rw [List.getElem?_append_left (by rw [htl]; exact h), List.getElem?_take, if_pos h]
  have top : (G.rho.take A.length ++ [sN])[A.length]? = some sN := by
    rw [List.getElem?_append_right (by rw [htl]; exact Nat.le_refl _), htl]; simp
  have bnd : ∀ id s, (G.rho.take A.length ++ [sN])[id]? = some s → id < A.length ∨ id = A.length := fun id s h => by
    have := (List.getElem?_eq_some_iff.1 h).1
    rw [List.length_append, htl] at this
    simp at this
    omega
  have hr : ∀ v u, Pv.Lt A.length v → Rep G v u → Rep { G with rho := G.rho.take A.length ++ [sN] } v u := fun v u hl h => Rep.lower (G := G) (G' := { G with rho := G.rho.take A.length ++ [sN] }) (m := A.length) (fun _ _ _ e => e) (fun _ _ e => e) (fun id hid => low id hid) h hl
  have up : ∀ id s, (G.rho.take A.length ++ [sN])[id]? = some s → G.rho[if id < A.length then id else (A ++ C).length]? = some s := fun id s h => by
    rcases bnd id s h with h1 | h1
    · rw [if_pos h1, ← low id h1]; exact h
    · subst h1
      rw [if_neg (by omega), hsN, ← top]; exact h
  refine ⟨{ G with rho := G.rho.take A.length ++ [sN] }, ⟨hR.below, by show (G.rho.take A.length ++ [sN]).length = _; rw [List.length_append, htl, List.length_append]; rfl, fun id s b' hs hb' => ?_, fun i j s s' g hij hs hs' => ?_, hR.st, hR.stM, hR.dfr, hR.tab⟩,
    ⟨rfl, fun _ _ _ e => e, fun _ _ e => e, fun _ _ _ => rfl, fun _ _ => rfl, fun id s hid hs => ⟨s, by show (G.rho.take A.length ++ [sN])[id]? = _; rw [low id hid]; exact hs, s.le_refl⟩⟩, by rw [hsN]; exact top, hr, rfl, low⟩
  · have hs0 : (G.rho.take A.length ++ [sN])[id]? = some s := hs
    have hu := up id s hs0
    rcases bnd id s hs0 with h1 | h1
    · rw [if_pos h1] at hu
      rw [List.getElem?_append_left h1] at hb'
      exact (hR.box id s b' hu (by rw [List.append_assoc, List.getElem?_append_left h1]; exact hb')).cut (hA b' (List.mem_of_getElem? hb')) hr rfl rfl rfl rfl
    · subst h1
      rw [if_neg (by omega)] at hu
      have hb2 : b' = b := by simpa using hb'.symm
      subst hb2
      exact (hR.box _ s b' hu (by simp)).cut hb hr rfl rfl rfl rfl
  · have h1 := up i s hs
    have h2 := up j s' hs'
    have b1 := bnd i s hs
    have b2 := bnd j s' hs'
    refine hR.inj _ _ s s' g ?_ h1 h2
    split <;> split <;> omega
/-- The topmost box, to which one temporary points, is taken down. -/
theorem Back.top {P : Program} {k0 : Nat} {s : St} (t j : Nat) (A C : List Box) (b : Box) {tm' : List (Nat × PV)} (h1 : s.sg = A ++ C ++ [b]) (hk0 : k0 ≤ A.length) (ht : getT s.tm t = some (.bp (A ++ C).length j)) (h3 : ∀ u v, getT tm' u = some v → getT s.tm u = some v)
    (h4 : ∀ p ∈ tm', Pv.Lt A.length p.2) (hA : ∀ x ∈ A, x.Lt A.length) (hb : b.Lt A.length) (hl : noLoops (C ++ [b]) = true) : Back P k0 s ⟨(t, .bp A.length j) :: tm', s.n, A ++ [b]⟩ := by
  intro c st hk hr
  obtain ⟨hle, hrun⟩ := hr
  refine ⟨by simp; omega, fun r n G a w db Q hs k => hrun r n G a w db Q hs fun e a' w' G' he hs' hl' => ?_⟩
  have hR := hs'.rel
  rw [h1] at hR
  obtain ⟨G2, hR2, hl2, htop, hrep, hdf, hlow⟩ := top_rel hR hA hb
  refine k _ _ _ G2 ?_ ⟨hR2, fun u v e2 => ?_, hs'.n, ?_, fun l hl0 => ?_⟩ (hl'.trans hl2 (by omega))
  · cases e <;> exact he
  · unfold getT at e2
    split at e2
    · cases e2
      rename_i htu
      subst htu
      obtain ⟨x, hx, hrx⟩ := hs'.tm _ _ ht
      cases hrx with
      | bp hsx => exact ⟨_, hx, .bp (by rw [htop]; exact hsx)⟩
    · obtain ⟨x, hx, hrx⟩ := hs'.tm u v (h3 u v e2)
      obtain ⟨p, hp, rfl⟩ := getT_mem e2
      exact ⟨x, hx, hrep _ _ (h4 p hp) hrx⟩
  · have := hs'.dfr
    rw [hdf]
    exact this
  · obtain ⟨id, d, lr, g1, g2⟩ := hs'.rd l hl0
    have hid : id < A.length := Nat.lt_of_not_le fun h => by
      rw [h1, List.append_assoc, List.getElem?_append_right h] at g2
      have := List.all_eq_true.1 hl _ (List.mem_of_getElem? g2)
      simp [isLoopB] at this
    refine ⟨id, d, lr, by rw [hlow id hid]; exact g1, ?_⟩
    rw [h1, List.append_assoc, List.getElem?_append_left hid] at g2
    rw [List.getElem?_append_left hid]
    exact g2
end Go.Pv
namespace Go.Pv
open Go Go.RowKit
section
variable {P : Program} {T : TypeId → TyI} {G : Gh} {sg : List Box} {w : World}
end
section
variable {P : Program} {T : TypeId → TyI} {me : Meth} {cf : CallF} {ops : Array Oper} {st st1 : St} {Q : Out → St → Prop}
end
end Go.Pv
