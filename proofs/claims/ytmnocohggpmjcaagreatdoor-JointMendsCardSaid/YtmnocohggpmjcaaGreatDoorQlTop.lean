/- The pure-value layer, part 48: calls that leave a row of their own, among whatever boxes. -/
import Derived.Test.YtmnocohggpmjcaaGreatDoorQlIter
import Derived.Test.YtmnocohggpmjcaaGreatDoorQlLoop
set_option linter.all false
namespace Go.Pv
open Go Go.RowKit
theorem CallOk.rowAt {P : Program} {f : FuncId} {args : List PV} {e : TypeId} {k : Nat} {es : List PV} (h : CallOk P f args [] (.ret (.ms 0 es.length)) [.row false e k es false]) (hlt : ∀ x ∈ args, Lt 0 x) (hcl : ∀ x ∈ es, Lt 0 x) (sg : List Box) :
    CallOk P f args sg (.ret (.ms sg.length es.length)) (sg ++ [.row false e k es false]) := by
  refine ⟨by simp, fun n G w us hR hL => ?_⟩
  have hR1 : Rel (G.push .dead) (sg ++ [.dead]) w := push_dead hR
  have hfree : free (sg ++ [Box.dead]) sg.length := by
    unfold free
    rw [List.getElem?_append_right (Nat.le_refl _)]; simp
  refine CallsIn.mono (h.frameRow hlt hcl hR1 (hL.push .dead) (n := n) hfree) fun x w' ⟨G', u, hx, hR', hl, hdf, hm⟩ => ?_
  subst hx
  refine ⟨G', ?_, (Gh.le_trans (G.push_le .dead) hl).leM _, hdf, hm⟩
  have : (sg ++ [Box.dead]).set sg.length (.row false e k es false) = sg ++ [.row false e k es false] := by
    rw [List.set_append_right _ _ (Nat.le_refl _)]; simp
  rw [this] at hR'
  exact hR'
/-- A contract that is told where there are no boxes, among whatever boxes. -/
def conRow (c : List PV → List Box → Option (PRes × List Box)) (args : List PV) (sg : List Box) : Option (PRes × List Box) :=
  match c args [] with
  | some (.ret (.ms 0 n), [.row false e k es false]) => if n = es.length ∧ closedL es = true ∧ ltBL 0 args = true then some (.ret (.ms sg.length n), sg ++ [.row false e k es false]) else none
  | some (.ret v, []) => if ltBL 0 args = true then some (.ret v, sg) else none
  | _ => none
theorem ConOk.row {P : Program} {f : FuncId} {c : List PV → List Box → Option (PRes × List Box)} (h : ConOk P f c) : ConOk P f (conRow c) := fun args sg r sg' e => by
  unfold conRow at e
  split at e
  · rename_i hc
    split at e <;> cases e
    rename_i hh
    obtain ⟨rfl, h2, h3⟩ := hh
    obtain ⟨a, b, _⟩ := h _ _ _ _ hc
    exact ⟨a, b.rowAt (lt_of_ltBL 0 _ h3) (lt_of_closedL _ h2) sg, (SameLoops.refl sg).app [_] rfl⟩
  · rename_i hc
    split at e <;> cases e
    rename_i hh
    obtain ⟨a, b, _⟩ := h _ _ _ _ hc
    exact ⟨a, b.frame (lt_of_ltBL 0 _ hh) _, SameLoops.refl _⟩
  · cases e
end Go.Pv
namespace Go.Pv
open Go Go.RowKit
end Go.Pv
namespace Go.Pv
open Go Go.RowKit
section
variable {P : Program} {T : TypeId → TyI} {G : Gh} {sg : List Box} {w : World}
end
section
variable {P : Program} {T : TypeId → TyI} {me : Meth} {cf : CallF} {ops : Array Oper} {st st1 : St} {Q : Out → St → Prop}
end
end Go.Pv
