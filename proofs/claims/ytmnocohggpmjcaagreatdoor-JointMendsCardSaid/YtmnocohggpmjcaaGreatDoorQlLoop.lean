/- The pure-value layer, part 46: the loop over an iterator whose rounds leave boxes that are known. -/
import Derived.Test.YtmnocohggpmjcaaGreatDoorQlIter
import Derived.Test.YtmnocohggpmjcaaGreatDoorQdWalk
import Derived.Test.YtmnocohggpmjcaaGreatDoorQcEval
set_option linter.all false
namespace Go.Pv
open Go Go.RowKit
section
variable {P : Program} {tm : List (Nat × PV)} {n : Nat} {as0 b : Code}
end
end Go.Pv
namespace Go.Pv
open Go Go.RowKit
section
variable {P : Program}
end
end Go.Pv
namespace Go.Pv
open Go Go.RowKit
section
variable {P : Program} {T : TypeId → TyI} {me : Meth} {cf : CallF} {ops : Array Oper} {st st1 st2 : St} {out : Out} {Q : Out → St → Prop}
theorem RunOps.pre {l : List Nat} (h : Ghost st st1) (h1 : RunOps P ops l st1 out st2) : RunOps P ops l st out st2 :=
  ⟨Nat.le_trans h.1 h1.1, fun r n G a w db Q hs k => let ⟨G1, hs1, hl⟩ := h.2 r G a w db hs; h1.2 r n G1 a w db Q hs1 fun e a' w' G' he hs' hl' => k _ _ _ G' he hs' (hl.trans hl' h.1)⟩
def RegG (P : Program) (me : Meth) (cf : CallF) (T : TypeId → TyI) (ops : Array Oper) (i : Nat) (os : List Oper) (st : St) (Q : Out → St → Prop) : Prop :=
  TyT P T → CallFOk P cf → MethOk P me → (∀ (j : Nat) (o : Oper), os[j]? = some o → ops[i + j]? = some o) → ∃ out st', RunOps P ops (List.range' i os.length) st out st' ∧ Q out st'
theorem RegG.nil {i : Nat} (h : Q .normal st) : RegG P me cf T ops i [] st Q := fun _ _ _ _ => ⟨_, _, RunOps.nil ops _, h⟩
theorem RegG.step {i : Nat} {o : Oper} {os : List Oper} (h : stepO me cf T ops st o = some (.normal, st1)) (hq : RegG P me cf T ops (i + 1) os st1 Q) : RegG P me cf T ops i (o :: os) st Q := by
  intro hT hcf hme hos
  have hi : ops[i]? = some o := hos 0 o rfl
  have hos' : ∀ (j : Nat) (o : Oper), os[j]? = some o → ops[i + 1 + j]? = some o := fun j o' hj => by
    have := hos (j + 1) o' (by simpa using hj)
    rw [show i + 1 + j = i + (j + 1) by omega]
    exact this
  obtain ⟨out, st', h1, h2⟩ := hq hT hcf hme hos'
  refine ⟨out, st', ?_, h2⟩
  rw [List.length_cons, List.range'_succ]
  unfold stepO at h
  split at h
  · rename_i hw
    exact RunOps.cons hi hw (evOp_ok hT hcf noY_ok hme h) h1
  · rename_i hw
    split at h <;> cases h
    rename_i hd
    exact RunOps.skip hi hw (dOk_iff hd) h1
  · cases h
theorem RegG.ghost {i : Nat} {os : List Oper} (h : Ghost st st1) (hq : RegG P me cf T ops i os st1 Q) : RegG P me cf T ops i os st Q := by
  intro hT hcf hme hos
  obtain ⟨out, st', h1, h2⟩ := hq hT hcf hme hos
  exact ⟨out, st', RunOps.pre h h1, h2⟩
theorem Ghost.freeze (t id : Nat) {tm tm' : List (Nat × PV)} {n m k : Nat} {e : TypeId} {sg sg' : List Box} {es : List PV} (h : getT tm t = some (.ms id m)) (hb : sg[id]? = some (.row false e k es false))
    (hm : es.length = m) (hc : closedL es = true) (e1 : sg.set id (.row false e k es true) = sg') (e2 : putT tm t (.sl .a es) = tm') : Ghost ⟨tm, n, sg⟩ ⟨tm', n, sg'⟩ := by
  have hrows : rowsOf sg [id] = sg' := by
    unfold rowsOf
    simp only [hb, rowsOf]
    rw [frzL_closed (n := 4) (flat es) sg (closedL_flat es hc)]
    simp only [regroup_self]
    exact e1
  have hid : sg'[id]? = some (.row false e k es true) := by
    rw [← e1]
    exact List.getElem?_set_self (List.getElem?_eq_some_iff.1 hb).1
  have hv : viewV sg' (.ms id m) = some (.sl .a es) := by
    show view1 sg' (.ms id m) = _
    unfold view1
    simp [hid, hm]
  have g1 : Ghost ⟨tm, n, sg⟩ ⟨tm, n, sg'⟩ := by
    have := Ghost.rows [id] sg ⟨tm, n, sg⟩ rfl
    rw [hrows] at this
    exact this
  have g2 : Ghost ⟨tm, n, sg'⟩ ⟨tm', n, sg'⟩ := by
    have := Ghost.view (n := n) (sg := sg') h hv
    rw [e2] at this
    exact this
  exact g1.trans g2
theorem RegG.freeze {i : Nat} {os : List Oper} (t id : Nat) {tm tm' : List (Nat × PV)} {n m k : Nat} {e : TypeId} {sg sg' : List Box} {es : List PV} (h : getT tm t = some (.ms id m)) (hb : sg[id]? = some (.row false e k es false))
    (hm : es.length = m) (hc : closedL es = true) (e1 : sg.set id (.row false e k es true) = sg') (e2 : putT tm t (.sl .a es) = tm') (hq : RegG P me cf T ops i os ⟨tm', n, sg'⟩ Q) : RegG P me cf T ops i os ⟨tm, n, sg⟩ Q :=
  RegG.ghost (Ghost.freeze t id h hb hm hc e1 e2) hq
theorem RunQ.regG {id : Nat} {os : List Oper} (hT : TyT P T) (hcf : CallFOk P cf) (hme : MethOk P me) (h : RegG P me cf T os.toArray 0 os st Q) : RunQ P (.region id os.toArray false) st Q := by
  obtain ⟨o, st', h1, h2⟩ := h hT hcf hme (fun j o hj => by rw [Nat.zero_add]; simpa using hj)
  refine ⟨o, st', Run.region ?_, h2⟩
  rw [List.range_eq_range']
  simpa using h1
end
end Go.Pv
