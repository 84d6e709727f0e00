/- The pure-value layer, part 48: calls that leave a row of their own, among whatever boxes. -/
import Derived.Test.YtmnocohggpmjcaaGreatDoorQlIter
import Derived.Test.YtmnocohggpmjcaaGreatDoorQlLoop
set_option linter.all false
namespace Go.Pv
open Go Go.RowKit
theorem CallOk.rowAt {P : Program} {f : FuncId} {args : List PV} {e : TypeId} {k : Nat} {es : List PV} (h : CallOk P f args [] (.ret (.ms 0 es.length)) [.row false e k es false]) (hlt : ∀ x ∈ args, Lt 0 x) (hcl : ∀ x ∈ es, Lt 0 x) (sg : List Box) :
    CallOk P f args sg (.ret (.ms sg.length es.length)) (sg ++ [.row false e k es false]) := by
  refine ⟨by simp, fun n G w us hR hL => ?_⟩
  have hR1 : Rel (G.push .dead) (sg ++ [.dead]) w := push_dead hR
  have hfree : free (sg ++ [Box.dead]) sg.length := by
    unfold free
    rw [List.getElem?_append_right (Nat.le_refl _)]; simp
  refine CallsIn.mono (h.frameRow hlt hcl hR1 (hL.push .dead) (n := n) hfree) fun x w' ⟨G', u, hx, hR', hl, hdf, hm⟩ => ?_
  subst hx
  refine ⟨G', ?_, (Gh.le_trans (G.push_le .dead) hl).leM _, hdf, hm⟩
  have : (sg ++ [Box.dead]).set sg.length (.row false e k es false) = sg ++ [.row false e k es false] := by
    rw [List.set_append_right _ _ (Nat.le_refl _)]; simp
  rw [this] at hR'
  exact hR'
/-- A contract that is told where there are no boxes, among whatever boxes. -/
def conRow (c : List PV → List Box → Option (PRes × List Box)) (args : List PV) (sg : List Box) : Option (PRes × List Box) :=
  match c args [] with
  | some (.ret (.ms 0 n), [.row false e k es false]) => if n = es.length ∧ closedL es = true ∧ ltBL 0 args = true then some (.ret (.ms sg.length n), sg ++ [.row false e k es false]) else none
  | some (.ret v, []) => if ltBL 0 args = true then some (.ret v, sg) else none
  | _ => none
theorem ConOk.row {P : Program} {f : FuncId} {c : List PV → List Box → Option (PRes × List Box)} (h : ConOk P f c) : ConOk P f (conRow c) := fun args sg r sg' e => by
  unfold conRow at e
  split at e
  · rename_i hc
    split at e <;> cases e
    rename_i hh
    obtain ⟨rfl, h2, h3⟩ := hh
    obtain ⟨a, b, _⟩ := h _ _ _ _ hc
    exact ⟨a, b.rowAt (lt_of_ltBL 0 _ h3) (lt_of_closedL _ h2) sg, (SameLoops.refl sg).app [_] rfl⟩
  · rename_i hc
    split at e <;> cases e
    rename_i hh
    obtain ⟨a, b, _⟩ := h _ _ _ _ hc
    exact ⟨a, b.frame (lt_of_ltBL 0 _ hh) _, SameLoops.refl _⟩
  · cases e
end Go.Pv
namespace Go.Pv
open Go Go.RowKit
section
variable {P : Program} {T : TypeId → TyI} {G : Gh} {sg : List Box} {w : World}
theorem buildRow_ok (hT : TyT P T) (hR : Rel G sg w) {t : TypeId} {e : TypeId} (hd : (T t).d = .slice e) {len : Nat} {parts : List (Nat × PV)} {vals : Array (Nat × Value)} {es : List PV} (hl : vals.size = parts.length)
    (hr : ∀ (j : Nat) (p : Nat × PV) (q : Nat × Value), parts[j]? = some p → vals[j]? = some q → p.1 = q.1 ∧ Rep G p.2 q.2) (h : buildSliceC T t len parts = some (.sl .f es)) :
    ∃ u w' G', (Instr.buildSlice t len vals).run P w = .ok u w' ∧ Rel G' (sg ++ [.row false e (T e).size es false]) w' ∧ G.le G' ∧ G'.dfr = G.dfr ∧ Rep G' (.ms sg.length es.length) u := by
  unfold buildSliceC at h
  rw [hd] at h
  dsimp only at h
  split at h <;> try (cases h; done)
  rename_i hc
  obtain ⟨he, h0, hlen, hml⟩ := hc
  split at h <;> cases h
  rename_i hs
  have hu := und_slice (hT t (by rw [hd]; rfl)) hd
  obtain ⟨f, z, ud, h1, h2, h3, h4, h5, h6, h7, h8, h9, h10, _⟩ := (hT e he).ex
  obtain ⟨z1, z2, z3⟩ := zeros_rep (hT e he) h0 len h8 h5 G
  obtain ⟨us', e1, e2, e3, e4, e5⟩ := setAll_ok h0 (vals := vals.toList) hs (by simpa using hl) (fun j p q hp hq => hr j p q hp (by simpa using hq)) z1 z2 z3
  have e5' : es.length = len := by simpa using e5
  have hrun : (Instr.buildSlice t len vals).run P w = .ok (.slice (some ⟨w.heap.size, 0, none⟩) len len) (w.alloc (.cells us' e)) := by
    by_cases hz : len * (T e).size = 0
    · have hz' : len = 0 := by
        rcases Nat.mul_eq_zero.1 hz with h | h
        · exact h
        · omega
      subst hz'
      have hes : es = [] := List.eq_nil_of_length_eq_zero e5'
      subst hes
      simp only [Nat.zero_mul, show Array.range 0 = #[] from rfl, Array.map_empty] at e1
      simp [Instr.buildSlice, run_underlying hu, run_size (hT e he), show Array.range 0 = #[] from rfl, e1, newRow]
    · simp only [Instr.buildSlice, Sem.run_bind, run_underlying hu, run_size (hT e he), Result.andThen_ok]
      rw [if_neg (by omega), if_neg hz]
      simp only [zeroValue, typeInfo, h1, h4, Sem.run_bind, run_program, Result.andThen_ok, Sem.run_pure, e1, newRow, run_newObj_alloc]
  have hsz : us'.size = len * (T e).size := by
    have := e2.1
    rw [this, flat_length (k := (T e).size) es e4, e5']
  have how : (w.alloc (.cells us' e)).ownsRow w.heap.size e (T e).size (.slice (some ⟨w.heap.size, 0, none⟩) es.length len) es.length us'.toList :=
    ⟨by simp [hsz, e5'], .inr ⟨w.heap.size, len, us', rfl, Nat.le_refl _, heap_alloc_new w _, by omega, hml, by simpa using hsz, by rw [List.take_of_length_le (by simp [hsz, e5'])]⟩⟩
  have hR1 : Rel (G.push .dead) (sg ++ [.dead]) w := push_dead hR
  have hfree : free (sg ++ [Box.dead]) sg.length := by
    unfold free
    rw [List.getElem?_append_right (Nat.le_refl _)]; simp
  obtain ⟨G', a1, a2, a3, a4⟩ := new_row hR1 hfree (below_alloc w (.cells us' e)) (Nat.le_refl _) rfl how e4 e3 (by rw [Array.toArray_toList]; exact e2.push .dead)
  have hset : (sg ++ [Box.dead]).set sg.length (.row false e (T e).size es false) = sg ++ [.row false e (T e).size es false] := by
    rw [List.set_append_right _ _ (Nat.le_refl _)]; simp
  rw [hset] at a1
  refine ⟨_, _, G', hrun, a1, Gh.le_trans (G.push_le .dead) a2, a3, ?_⟩
  rw [e5'] at a4 ⊢
  exact a4
end
section
variable {P : Program} {T : TypeId → TyI} {me : Meth} {cf : CallF} {ops : Array Oper} {st st1 : St} {Q : Out → St → Prop}
theorem RunOp.buildRow (hT : TyT P T) {o : Oper} {d : Nat} {t e : TypeId} {len : Nat} {ps : Array (Nat × Operand)} {parts : List (Nat × PV)} {es : List PV} (ho : o.op = .buildSlice t len ps) (hdst : o.dst = some d) (hd : d < st.n) (hte : (T t).d = .slice e)
    (hp : evPs st.tm ps.toList = some parts) (h : buildSliceC T t len parts = some (.sl .f es)) :
    RunOp P o st .normal ⟨putT st.tm d (.ms st.sg.length es.length), st.n, st.sg ++ [.row false e (T e).size es false]⟩ := by
  refine ⟨by simp, fun r n G a w db next Q hs k => ⟨fun f _ => trivial, ?_⟩⟩
  obtain ⟨p1, p2⟩ := evPs_rep hs.tm hp
  obtain ⟨u, w', G', hrun, hR', hle, hdf', hv⟩ := buildRow_ok (P := P) hT hs.rel hte (vals := ps.map fun p => (p.1, a.eval p.2)) (by simpa using p1) (fun j p q h1 h2 => p2 j p q h1 (by simpa using h2)) h
  have hlM := hle.leM st.sg.length
  have hS : RelS G' ⟨putT st.tm d (.ms st.sg.length es.length), st.n, st.sg ++ [.row false e (T e).size es false]⟩ (a.put o.dst u) w' r db := by
    refine ⟨hR', ?_, (put_size a o.dst u).trans hs.n, ?_, fun l hl => ?_⟩
    · have := (hs.tm.mono hle).putD (dst := o.dst) (v := .ms st.sg.length es.length) (u := u) (fun d' e' => by rw [hdst] at e'; cases e'; exact hs.n ▸ hd) hv
      rw [hdst] at this ⊢
      exact this
    · obtain ⟨own, h1, h2⟩ := hs.dfr
      exact ⟨own, by rw [put_defers]; exact h1, by rw [hdf']; exact h2.1, h2.2⟩
    · obtain ⟨id, d', lr, h1, h2⟩ := hs.rd l hl
      have hid := (List.getElem?_eq_some_iff.1 h2).1
      obtain ⟨lr', h3, h4⟩ := loops_stay (lr := lr) hR' hlM hid h1 (fun hg => by
        rw [List.getElem?_append_left hid, h2] at hg; cases hg)
      exact ⟨id, d', lr', h3, h4⟩
  have hsem : o.semAt (FW r).round a.eval = execOp a.eval o := Oper.semAt_eq _ _ _ (fun c e => by rw [ho] at e; cases e)
  rw [hsem]
  have hx : (execOp a.eval o).run P w = .ok (.value u) w' := by
    simp [execOp, ho, hrun]
  rcases k .normal (a.put o.dst u) w' G' trivial hS hlM with ⟨_, hn⟩ | ⟨hn, _⟩
  · rw [hx]; exact hn
  · exact absurd rfl hn
theorem RegG.buildRow {i : Nat} {o : Oper} {os : List Oper} {d : Nat} {t e : TypeId} {len : Nat} {ps : Array (Nat × Operand)} {parts : List (Nat × PV)} {es : List PV} (hw : wantC ops st.tm o = some true) (ho : o.op = .buildSlice t len ps) (hdst : o.dst = some d) (hd : Nat.blt d st.n = true) (hte : (T t).d = .slice e)
    (hp : evPs st.tm ps.toList = some parts) (h : buildSliceC T t len parts = some (.sl .f es)) (e1 : (⟨putT st.tm d (.ms st.sg.length es.length), st.n, st.sg ++ [.row false e (T e).size es false]⟩ : St) = st1) (hq : RegG P me cf T ops (i + 1) os st1 Q) : RegG P me cf T ops i (o :: os) st Q := by
  intro hT hcf hme hos
  have hi : ops[i]? = some o := hos 0 o rfl
  have hos' : ∀ (j : Nat) (o : Oper), os[j]? = some o → ops[i + 1 + j]? = some o := fun j o' hj => by
    have := hos (j + 1) o' (by simpa using hj)
    rw [show i + 1 + j = i + (j + 1) by omega]
    exact this
  obtain ⟨out, st', h1, h2⟩ := hq hT hcf hme hos'
  refine ⟨out, st', ?_, h2⟩
  rw [List.length_cons, List.range'_succ]
  subst e1
  exact RunOps.cons hi hw (RunOp.buildRow hT ho hdst (by simpa using hd) hte hp h) h1
end
end Go.Pv
