/- The pure-value layer, part 46: the loop over an iterator whose rounds leave boxes that are known. -/
import Derived.Test.YtmnocohggpmjcaaGreatDoorQlIter
import Derived.Test.YtmnocohggpmjcaaGreatDoorQdWalk
import Derived.Test.YtmnocohggpmjcaaGreatDoorQcEval
set_option linter.all false
namespace Go.Pv
open Go Go.RowKit
section
variable {P : Program} {tm : List (Nat × PV)} {n : Nat} {as0 b : Code}
end
/-- A variable that holds a nil slice, looked at as one that holds a row of its own without elements. -/
theorem Ghost.nilBox {st : St} {id j : Nat} {cs : List PV} (h : st.sg[id]? = some (.var cs false)) (hj : cs[j]? = some (.sl .n [])) (e : TypeId) (k : Nat) :
    Ghost st { st with sg := (st.sg ++ [Box.row true e k [] false]).set id (.var (cs.set j (.ms st.sg.length 0)) false) } := by
  have hid : id < st.sg.length := (List.getElem?_eq_some_iff.1 h).1
  refine Ghost.of (by simp) (fun G w hR => ?_) (fun id' lr hl => ?_)
  · have hle := G.push_le (Slot.row (.slice none 0 0) 0 k)
    have hR1 : Rel (G.push (Slot.row (.slice none 0 0) 0 k)) (st.sg ++ [.row true e k [] false]) w := by
      refine hR.push (Below.refl _ w) (fun g e => by cases e) ?_
      refine ⟨rfl, rfl, by simp, by simp, by simp [flat], ⟨[], ?_, by simp [flat], fun j c u hc => by simp [flat] at hc⟩, fun g e => by cases e⟩
      exact ⟨by simp, .inl ⟨rfl, rfl⟩⟩
    have hlast : (G.push (Slot.row (.slice none 0 0) 0 k)).rho[st.sg.length]? = some (Slot.row (.slice none 0 0) 0 k) := by
      show (G.rho ++ [_])[st.sg.length]? = _
      rw [← hR.len, List.getElem?_append_right (Nat.le_refl _)]; simp
    obtain ⟨s, hs, hok⟩ := hR1.slot (id := id) (b := .var cs false) (by rw [List.getElem?_append_left hid]; exact h)
    cases s with
    | blk g =>
      obtain ⟨b1, ⟨us, Ty, hh, hL⟩, ho, hS⟩ := hok
      have hsl := Gh.setSlot_le (G.push (Slot.row (.slice none 0 0) 0 k)) id _ _ hs (Slot.le_refl _)
      refine ⟨_, hR1.change hs (Slot.le_refl _) (below_grown (Below.refl _ w)) (fun g h => .inl h) (fun g h => by cases h; exact b1) (fun g h o v hv => by cases h; rw [hS o (.inl rfl)] at hv; cases hv) (fun g h es c hm => ?_) (fun g h hd => ?_) ?_, Gh.le_trans hle hsl, rfl⟩
      · cases h
        have := hR1.stM _ _ _ hm
        rw [hh] at this
        cases this
      · cases h
        have := (hR1.dfr _ hd).2
        rw [hh] at this
        cases this
      · refine ⟨b1, ⟨us, Ty, hh, by rw [List.length_set]; exact hL.1, fun i c u hc hu => ?_⟩, fun c hc => ?_, fun o ho' => hS o (.inl rfl)⟩
        · by_cases hi : j = i
          · subst hi
            have hjl : j < cs.length := (List.getElem?_eq_some_iff.1 hj).1
            rw [List.getElem?_set_self hjl] at hc
            cases hc
            have hr := hL.2 j _ u hj hu
            refine Rep.mono hsl ?_
            cases hr with
            | nils => exact .ms hlast (Nat.le_refl _) rfl fun _ => rfl
            | sl hz => exact absurd rfl hz
          · rw [List.getElem?_set_ne hi] at hc
            exact (hL.2 i c u hc hu).mono hsl
        · rcases List.mem_or_eq_of_mem_set hc with hc | rfl
          · exact ho c hc
          · rfl
    | dead => simp [BoxOk] at hok
    | lp g d => simp [BoxOk] at hok
    | row v n k => simp [BoxOk] at hok
  · have hne : id ≠ id' := fun e => by subst e; rw [h] at hl; cases hl
    have hl' : id' < st.sg.length := (List.getElem?_eq_some_iff.1 hl).1
    rw [List.getElem?_set_ne hne, List.getElem?_append_left hl']
    exact hl
theorem RunQ.nilBox {P : Program} {c : Code} {Q : Out → St → Prop} (id j : Nat) (e : TypeId) (k : Nat) {tm : List (Nat × PV)} {n : Nat} {sg sg' : List Box} {cs : List PV} (h : sg[id]? = some (.var cs false)) (hj : cs[j]? = some (.sl .n []))
    (e2 : (sg ++ [Box.row true e k [] false]).set id (.var (cs.set j (.ms sg.length 0)) false) = sg') (hq : RunQ P c ⟨tm, n, sg'⟩ Q) : RunQ P c ⟨tm, n, sg⟩ Q :=
  RunQ.pre (st1 := ⟨tm, n, sg'⟩) (by have := Ghost.nilBox (st := ⟨tm, n, sg⟩) h hj e k; rw [e2] at this; exact this) hq
end Go.Pv
namespace Go.Pv
open Go Go.RowKit
section
variable {P : Program} {T : TypeId → TyI} {me : Meth} {cf : CallF} {ops : Array Oper} {st st1 st2 : St} {out : Out} {Q : Out → St → Prop}
theorem RunOps.pre {l : List Nat} (h : Ghost st st1) (h1 : RunOps P ops l st1 out st2) : RunOps P ops l st out st2 :=
  ⟨Nat.le_trans h.1 h1.1, fun r n G a w db Q hs k => let ⟨G1, hs1, hl⟩ := h.2 r G a w db hs; h1.2 r n G1 a w db Q hs1 fun e a' w' G' he hs' hl' => k _ _ _ G' he hs' (hl.trans hl' h.1)⟩
def RegG (P : Program) (me : Meth) (cf : CallF) (T : TypeId → TyI) (ops : Array Oper) (i : Nat) (os : List Oper) (st : St) (Q : Out → St → Prop) : Prop :=
  TyT P T → CallFOk P cf → MethOk P me → (∀ (j : Nat) (o : Oper), os[j]? = some o → ops[i + j]? = some o) → ∃ out st', RunOps P ops (List.range' i os.length) st out st' ∧ Q out st'
theorem RegG.nil {i : Nat} (h : Q .normal st) : RegG P me cf T ops i [] st Q := fun _ _ _ _ => ⟨_, _, RunOps.nil ops _, h⟩
theorem RegG.step {i : Nat} {o : Oper} {os : List Oper} (h : stepO me cf T ops st o = some (.normal, st1)) (hq : RegG P me cf T ops (i + 1) os st1 Q) : RegG P me cf T ops i (o :: os) st Q := by
  intro hT hcf hme hos
  have hi : ops[i]? = some o := hos 0 o rfl
  have hos' : ∀ (j : Nat) (o : Oper), os[j]? = some o → ops[i + 1 + j]? = some o := fun j o' hj => by
    have := hos (j + 1) o' (by simpa using hj)
    rw [show i + 1 + j = i + (j + 1) by omega]
    exact this
  obtain ⟨out, st', h1, h2⟩ := hq hT hcf hme hos'
  refine ⟨out, st', ?_, h2⟩
  rw [List.length_cons, List.range'_succ]
  unfold stepO at h
  split at h
  · rename_i hw
    exact RunOps.cons hi hw (evOp_ok hT hcf noY_ok hme h) h1
  · rename_i hw
    split at h <;> cases h
    rename_i hd
    exact RunOps.skip hi hw (dOk_iff hd) h1
  · cases h
theorem RegG.ghost {i : Nat} {os : List Oper} (h : Ghost st st1) (hq : RegG P me cf T ops i os st1 Q) : RegG P me cf T ops i os st Q := by
  intro hT hcf hme hos
  obtain ⟨out, st', h1, h2⟩ := hq hT hcf hme hos
  exact ⟨out, st', RunOps.pre h h1, h2⟩
theorem Ghost.freeze (t id : Nat) {tm tm' : List (Nat × PV)} {n m k : Nat} {e : TypeId} {sg sg' : List Box} {es : List PV} (h : getT tm t = some (.ms id m)) (hb : sg[id]? = some (.row false e k es false))
    (hm : es.length = m) (hc : closedL es = true) (e1 : sg.set id (.row false e k es true) = sg') (e2 : putT tm t (.sl .a es) = tm') : Ghost ⟨tm, n, sg⟩ ⟨tm', n, sg'⟩ := by
  have hrows : rowsOf sg [id] = sg' := by
    unfold rowsOf
    simp only [hb, rowsOf]
    rw [frzL_closed (n := 4) (flat es) sg (closedL_flat es hc)]
    simp only [regroup_self]
    exact e1
  have hid : sg'[id]? = some (.row false e k es true) := by
    rw [← e1]
    exact List.getElem?_set_self (List.getElem?_eq_some_iff.1 hb).1
  have hv : viewV sg' (.ms id m) = some (.sl .a es) := by
    show view1 sg' (.ms id m) = _
    unfold view1
    simp [hid, hm]
  have g1 : Ghost ⟨tm, n, sg⟩ ⟨tm, n, sg'⟩ := by
    have := Ghost.rows [id] sg ⟨tm, n, sg⟩ rfl
    rw [hrows] at this
    exact this
  have g2 : Ghost ⟨tm, n, sg'⟩ ⟨tm', n, sg'⟩ := by
    have := Ghost.view (n := n) (sg := sg') h hv
    rw [e2] at this
    exact this
  exact g1.trans g2
theorem RegG.freeze {i : Nat} {os : List Oper} (t id : Nat) {tm tm' : List (Nat × PV)} {n m k : Nat} {e : TypeId} {sg sg' : List Box} {es : List PV} (h : getT tm t = some (.ms id m)) (hb : sg[id]? = some (.row false e k es false))
    (hm : es.length = m) (hc : closedL es = true) (e1 : sg.set id (.row false e k es true) = sg') (e2 : putT tm t (.sl .a es) = tm') (hq : RegG P me cf T ops i os ⟨tm', n, sg'⟩ Q) : RegG P me cf T ops i os ⟨tm, n, sg⟩ Q :=
  RegG.ghost (Ghost.freeze t id h hb hm hc e1 e2) hq
theorem RunQ.regG {id : Nat} {os : List Oper} (hT : TyT P T) (hcf : CallFOk P cf) (hme : MethOk P me) (h : RegG P me cf T os.toArray 0 os st Q) : RunQ P (.region id os.toArray false) st Q := by
  obtain ⟨o, st', h1, h2⟩ := h hT hcf hme (fun j o hj => by rw [Nat.zero_add]; simpa using hj)
  refine ⟨o, st', Run.region ?_, h2⟩
  rw [List.range_eq_range']
  simpa using h1
end
end Go.Pv
namespace Go.Pv
open Go Go.RowKit
section
variable {P : Program}
theorem CallOk.cutPan {f : FuncId} {args : List PV} {sg sg1 : List Box} {v : PV} (h : CallOk P f args sg (.pan v) sg1) (hb : ∀ b ∈ sg1.take sg.length, b.Lt sg.length) (hv : Pv.Lt sg.length v) : CallOk P f args sg (.pan v) (sg1.take sg.length) := by
  refine ⟨by have := h.1; simp; omega, fun n G w us hR hL => CallsIn.mono (h.2 n G w us hR hL) fun e w' ⟨G', hR', hl, hdf, hm⟩ => ?_⟩
  obtain ⟨hR2, hl2⟩ := cut_rel hR' sg.length hb
  refine ⟨_, hR2, hl.trans hl2 (Nat.le_refl _), hdf, ?_⟩
  cases e with
  | panicked ch => obtain ⟨u, e, hr⟩ := hm; exact ⟨u, e, Rep.monoM hl2 hr hv⟩
  | outgrown => exact hm.elim
  | returned u => exact hm.elim
theorem CallOk.framePan {f : FuncId} {args : List PV} {v : PV} (h : CallOk P f args [] (.pan v) []) (hlt : ∀ x ∈ args, Pv.Lt 0 x) (sg : List Box) : CallOk P f args sg (.pan v) sg := by
  refine ⟨Nat.le_refl _, fun n G w us hR hL => ?_⟩
  let G0 : Gh := { w0 := w, S := G.S, SM := G.SM, rho := [], dfr := [] }
  have hR0 : Rel G0 [] w := ⟨Below.refl _ w, rfl, fun id s b hs => by simp [G0] at hs, fun i j s s' g _ hs => by simp [G0] at hs, hR.st, hR.stM, (fun b hb => by cases hb), hR.tab.mono hR.below⟩
  have hL0 : RepL G0 args us := ⟨hL.1, fun j c u hc hu => Rep.lower (G := G) (G' := G0) (m := 0) (fun _ _ _ e => e) (fun _ _ e => e) (fun id h => by omega) (hL.2 j c u hc hu) (hlt c (List.mem_of_getElem? hc))⟩
  refine CallsIn.mono (h.2 n G0 w us hR0 hL0) fun e w' ⟨G0', hR0', hl0, hdf0, hm⟩ => ?_
  have hw0 : G0'.w0 = w := hl0.w0
  have hbel : Below w.heap.size w w' := by have := hR0'.below; rw [hw0] at this; exact this
  have hrho : G0'.rho = [] := List.eq_nil_of_length_eq_zero hR0'.len
  let G' : Gh := { G with S := G0'.S, SM := G0'.SM }
  have hle : G.le G' := ⟨rfl, hl0.S, hl0.SM, fun g o hg => hl0.old g o (Nat.lt_of_lt_of_le hg hR.base_le), fun g hg => hl0.oldM g (Nat.lt_of_lt_of_le hg hR.base_le), fun id s hs => ⟨s, hs, s.le_refl⟩⟩
  have hRk := hR.keep hbel
  have hR' : Rel G' sg w' := by
    refine ⟨hRk.below, hRk.len, fun id s b hs hb => ?_, hRk.inj, hR0'.st, hR0'.stM, hRk.dfr, hR.tab⟩
    have hb0 := hR.box id s b hs hb
    exact (hRk.box id s b hs hb).keep (Nat.le_refl _) (fun _ _ r => r.mono hle) rfl (fun _ _ => rfl) (fun g hg o e => by
      have := hl0.old g o (hb0.blk hg).2
      show G0'.S g o = none
      rw [this]; exact e) (fun g hg e => by
      have := hl0.oldM g (hb0.blk hg).2
      show G0'.SM g = none
      rw [this]; exact e) (fun _ e => e)
  refine ⟨G', hR', hle.leM _, rfl, ?_⟩
  cases e with
  | panicked ch =>
    obtain ⟨u, e, hr⟩ := hm
    have hlt := hr.lt
    rw [hrho] at hlt
    exact ⟨u, e, Rep.lower (G := G0') (G' := G') (m := 0) (fun _ _ _ e => e) (fun _ _ e => e) (fun id h => by omega) hr hlt⟩
  | outgrown => exact hm.elim
  | returned u => exact hm.elim
/-- A function that ends in a panic, out of its body's walk where there are no boxes. -/
theorem CallOk.ofPan {f : FuncId} {fn : Func} {c : Code} {args : List PV} {n0 : Nat} {v : PV} (hf : P.funcs[f]? = some fn) (hb : fn.body = some c) (hn0 : n0 = args.length + (fn.ntmps - args.length))
    (hrun : RunQ P c ⟨argT 0 args, n0, []⟩ (fun o st' => o = .panic v ∧ sameLoopsC [] st'.sg = true)) (hv : Pv.Lt 0 v) : CallOk P f args [] (.pan v) [] := by
  obtain ⟨o, st', hr, rfl, h2⟩ := hrun
  have := CallOk.bodyP hf hb hn0 hr (sameLoops_of _ _ h2)
  exact CallOk.cutPan this (fun b hb => by simp at hb) hv
/-- A function that ends in a panic, among boxes: those above are dropped. -/
theorem CallOk.ofPanB {f : FuncId} {fn : Func} {c : Code} {args : List PV} {sg sg' : List Box} {n0 : Nat} {v : PV} (hf : P.funcs[f]? = some fn) (hb : fn.body = some c) (hn0 : n0 = args.length + (fn.ntmps - args.length))
    (hrun : RunQ P c ⟨argT 0 args, n0, sg⟩ (fun o st' => o = .panic v ∧ SameLoops sg st'.sg ∧ ∃ C, st'.sg = sg' ++ C)) (hlen : sg'.length = sg.length) (hlt : ∀ b ∈ sg', b.Lt sg.length) (hv : Pv.Lt sg.length v) : CallOk P f args sg (.pan v) sg' := by
  obtain ⟨o, st', hr, rfl, h2, C, h4⟩ := hrun
  have := CallOk.bodyP hf hb hn0 hr h2
  have ht : st'.sg.take sg.length = sg' := by rw [h4]; exact List.take_left' hlen
  have := this.cutPan (by rw [ht]; exact hlt) hv
  rw [ht] at this
  exact this
end
end Go.Pv
