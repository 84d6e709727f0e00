/- The pure-value layer, part 48: calls that leave a row of their own, among whatever boxes. -/
import Derived.Test.YtmnocohggpmjcaaGreatDoorQlIter
import Derived.Test.YtmnocohggpmjcaaGreatDoorQlLoop
set_option linter.all false
namespace Go.Pv
open Go Go.RowKit
theorem CallOk.rowAt {P : Program} {f : FuncId} {args : List PV} {e : TypeId} {k : Nat} {es : List PV} (h : CallOk P f args [] (.ret (.ms 0 es.length)) [.row false e k es false]) (hlt : ∀ x ∈ args, Lt 0 x) (hcl : ∀ x ∈ es, Lt 0 x) (sg : List Box) :
    CallOk P f args sg (.ret (.ms sg.length es.length)) (sg ++ [.row false e k es false]) := by
  refine ⟨by simp, fun n G w us hR hL => ?_⟩
  have hR1 : Rel (G.push .dead) (sg ++ [.dead]) w := push_dead hR
  have hfree : free (sg ++ [Box.dead]) sg.length := by
    unfold free
    rw [List.getElem?_append_right (Nat.le_refl _)]; simp
  refine CallsIn.mono (h.frameRow hlt hcl hR1 (hL.push .dead) (n := n) hfree) fun x w' ⟨G', u, hx, hR', hl, hdf, hm⟩ => ?_
  subst hx
  refine ⟨G', ?_, (Gh.le_trans (G.push_le .dead) hl).leM _, hdf, hm⟩
  have : (sg ++ [Box.dead]).set sg.length (.row false e k es false) = sg ++ [.row false e k es false] := by
    rw [List.set_append_right _ _ (Nat.le_refl _)]; simp
  rw [this] at hR'
  exact hR'
/-- A contract that is told where there are no boxes, among whatever boxes. -/
def conRow (c : List PV → List Box → Option (PRes × List Box)) (args : List PV) (sg : List Box) : Option (PRes × List Box) :=
  match c args [] with
  | some (.ret (.ms 0 n), [.row false e k es false]) => if n = es.length ∧ closedL es = true ∧ ltBL 0 args = true then some (.ret (.ms sg.length n), sg ++ [.row false e k es false]) else none
  | some (.ret v, []) => if ltBL 0 args = true then some (.ret v, sg) else none
  | _ => none
theorem ConOk.row {P : Program} {f : FuncId} {c : List PV → List Box → Option (PRes × List Box)} (h : ConOk P f c) : ConOk P f (conRow c) := fun args sg r sg' e => by
  unfold conRow at e
  split at e
  · rename_i hc
    split at e <;> cases e
    rename_i hh
    obtain ⟨rfl, h2, h3⟩ := hh
    obtain ⟨a, b, _⟩ := h _ _ _ _ hc
    exact ⟨a, b.rowAt (lt_of_ltBL 0 _ h3) (lt_of_closedL _ h2) sg, (SameLoops.refl sg).app [_] rfl⟩
  · rename_i hc
    split at e <;> cases e
    rename_i hh
    obtain ⟨a, b, _⟩ := h _ _ _ _ hc
    exact ⟨a, b.frame (lt_of_ltBL 0 _ hh) _, SameLoops.refl _⟩
  · cases e
end Go.Pv
namespace Go.Pv
open Go Go.RowKit
theorem top_rel {G : Gh} {A C : List Box} {b : Box} {w : World} (hR : Rel G (A ++ C ++ [b]) w) (hA : ∀ x ∈ A, x.Lt A.length) (hb : b.Lt A.length) :
    ∃ G', Rel G' (A ++ [b]) w ∧ Gh.leM A.length G G' ∧ G'.rho[A.length]? = G.rho[(A ++ C).length]? ∧ (∀ v u, Pv.Lt A.length v → Rep G v u → Rep G' v u) ∧ G'.dfr = G.dfr ∧ (∀ id, id < A.length → G'.rho[id]? = G.rho[id]?) := by
  have hlen : G.rho.length = (A ++ C).length + 1 := by rw [hR.len]; simp; omega
  have hAl : A.length ≤ (A ++ C).length := by simp
  obtain ⟨sN, hsN⟩ : ∃ s, G.rho[(A ++ C).length]? = some s := ⟨_, List.getElem?_eq_getElem (by omega)⟩
  have htl : (G.rho.take A.length).length = A.length := by rw [List.length_take]; omega
  have low : ∀ id, id < A.length → (G.rho.take A.length ++ [sN])[id]? = G.rho[id]? := fun id h => by
    rw [List.getElem?_append_left (by rw [htl]; exact h), List.getElem?_take, if_pos h]
  have top : (G.rho.take A.length ++ [sN])[A.length]? = some sN := by
    rw [List.getElem?_append_right (by rw [htl]; exact Nat.le_refl _), htl]; simp
  have bnd : ∀ id s, (G.rho.take A.length ++ [sN])[id]? = some s → id < A.length ∨ id = A.length := fun id s h => by
    have := (List.getElem?_eq_some_iff.1 h).1
    rw [List.length_append, htl] at this
    simp at this
    omega
  have hr : ∀ v u, Pv.Lt A.length v → Rep G v u → Rep { G with rho := G.rho.take A.length ++ [sN] } v u := fun v u hl h => Rep.lower (G := G) (G' := { G with rho := G.rho.take A.length ++ [sN] }) (m := A.length) (fun _ _ _ e => e) (fun _ _ e => e) (fun id hid => low id hid) h hl
  have up : ∀ id s, (G.rho.take A.length ++ [sN])[id]? = some s → G.rho[if id < A.length then id else (A ++ C).length]? = some s := fun id s h => by
    rcases bnd id s h with h1 | h1
    · rw [if_pos h1, ← low id h1]; exact h
    · subst h1
      rw [if_neg (by omega), hsN, ← top]; exact h
  refine ⟨{ G with rho := G.rho.take A.length ++ [sN] }, ⟨hR.below, by show (G.rho.take A.length ++ [sN]).length = _; rw [List.length_append, htl, List.length_append]; rfl, fun id s b' hs hb' => ?_, fun i j s s' g hij hs hs' => ?_, hR.st, hR.stM, hR.dfr, hR.tab⟩,
    ⟨rfl, fun _ _ _ e => e, fun _ _ e => e, fun _ _ _ => rfl, fun _ _ => rfl, fun id s hid hs => ⟨s, by show (G.rho.take A.length ++ [sN])[id]? = _; rw [low id hid]; exact hs, s.le_refl⟩⟩, by rw [hsN]; exact top, hr, rfl, low⟩
  · have hs0 : (G.rho.take A.length ++ [sN])[id]? = some s := hs
    have hu := up id s hs0
    rcases bnd id s hs0 with h1 | h1
    · rw [if_pos h1] at hu
      rw [List.getElem?_append_left h1] at hb'
      exact (hR.box id s b' hu (by rw [List.append_assoc, List.getElem?_append_left h1]; exact hb')).cut (hA b' (List.mem_of_getElem? hb')) hr rfl rfl rfl rfl
    · subst h1
      rw [if_neg (by omega)] at hu
      have hb2 : b' = b := by simpa using hb'.symm
      subst hb2
      exact (hR.box _ s b' hu (by simp)).cut hb hr rfl rfl rfl rfl
  · have h1 := up i s hs
    have h2 := up j s' hs'
    have b1 := bnd i s hs
    have b2 := bnd j s' hs'
    refine hR.inj _ _ s s' g ?_ h1 h2
    split <;> split <;> omega
/-- The topmost box, to which one temporary points, is taken down. -/
theorem Back.top {P : Program} {k0 : Nat} {s : St} (t j : Nat) (A C : List Box) (b : Box) {tm' : List (Nat × PV)} (h1 : s.sg = A ++ C ++ [b]) (hk0 : k0 ≤ A.length) (ht : getT s.tm t = some (.bp (A ++ C).length j)) (h3 : ∀ u v, getT tm' u = some v → getT s.tm u = some v)
    (h4 : ∀ p ∈ tm', Pv.Lt A.length p.2) (hA : ∀ x ∈ A, x.Lt A.length) (hb : b.Lt A.length) (hl : noLoops (C ++ [b]) = true) : Back P k0 s ⟨(t, .bp A.length j) :: tm', s.n, A ++ [b]⟩ := by
  intro c st hk hr
  obtain ⟨hle, hrun⟩ := hr
  refine ⟨by simp; omega, fun r n G a w db Q hs k => hrun r n G a w db Q hs fun e a' w' G' he hs' hl' => ?_⟩
  have hR := hs'.rel
  rw [h1] at hR
  obtain ⟨G2, hR2, hl2, htop, hrep, hdf, hlow⟩ := top_rel hR hA hb
  refine k _ _ _ G2 ?_ ⟨hR2, fun u v e2 => ?_, hs'.n, ?_, fun l hl0 => ?_⟩ (hl'.trans hl2 (by omega))
  · cases e <;> exact he
  · unfold getT at e2
    split at e2
    · cases e2
      rename_i htu
      subst htu
      obtain ⟨x, hx, hrx⟩ := hs'.tm _ _ ht
      cases hrx with
      | bp hsx => exact ⟨_, hx, .bp (by rw [htop]; exact hsx)⟩
    · obtain ⟨x, hx, hrx⟩ := hs'.tm u v (h3 u v e2)
      obtain ⟨p, hp, rfl⟩ := getT_mem e2
      exact ⟨x, hx, hrep _ _ (h4 p hp) hrx⟩
  · have := hs'.dfr
    rw [hdf]
    exact this
  · obtain ⟨id, d, lr, g1, g2⟩ := hs'.rd l hl0
    have hid : id < A.length := Nat.lt_of_not_le fun h => by
      rw [h1, List.append_assoc, List.getElem?_append_right h] at g2
      have := List.all_eq_true.1 hl _ (List.mem_of_getElem? g2)
      simp [isLoopB] at this
    refine ⟨id, d, lr, by rw [hlow id hid]; exact g1, ?_⟩
    rw [h1, List.append_assoc, List.getElem?_append_left hid] at g2
    rw [List.getElem?_append_left hid]
    exact g2
end Go.Pv
namespace Go.Pv
open Go Go.RowKit
section
variable {P : Program} {T : TypeId → TyI} {G : Gh} {sg : List Box} {w : World}
theorem buildRow_ok (hT : TyT P T) (hR : Rel G sg w) {t : TypeId} {e : TypeId} (hd : (T t).d = .slice e) {len : Nat} {parts : List (Nat × PV)} {vals : Array (Nat × Value)} {es : List PV} (hl : vals.size = parts.length)
    (hr : ∀ (j : Nat) (p : Nat × PV) (q : Nat × Value), parts[j]? = some p → vals[j]? = some q → p.1 = q.1 ∧ Rep G p.2 q.2) (h : buildSliceC T t len parts = some (.sl .f es)) :
    ∃ u w' G', (Instr.buildSlice t len vals).run P w = .ok u w' ∧ Rel G' (sg ++ [.row false e (T e).size es false]) w' ∧ G.le G' ∧ G'.dfr = G.dfr ∧ Rep G' (.ms sg.length es.length) u := by
  unfold buildSliceC at h
  rw [hd] at h
  dsimp only at h
  split at h <;> try (cases h; done)
  rename_i hc
  obtain ⟨he, h0, hlen, hml⟩ := hc
  split at h <;> cases h
  rename_i hs
  have hu := und_slice (hT t (by rw [hd]; rfl)) hd
  obtain ⟨f, z, ud, h1, h2, h3, h4, h5, h6, h7, h8, h9, h10, _⟩ := (hT e he).ex
  obtain ⟨z1, z2, z3⟩ := zeros_rep (hT e he) h0 len h8 h5 G
  obtain ⟨us', e1, e2, e3, e4, e5⟩ := setAll_ok h0 (vals := vals.toList) hs (by simpa using hl) (fun j p q hp hq => hr j p q hp (by simpa using hq)) z1 z2 z3
  have e5' : es.length = len := by simpa using e5
  have hrun : (Instr.buildSlice t len vals).run P w = .ok (.slice (some ⟨w.heap.size, 0, none⟩) len len) (w.alloc (.cells us' e)) := by
    by_cases hz : len * (T e).size = 0
    · have hz' : len = 0 := by
        rcases Nat.mul_eq_zero.1 hz with h | h
        · exact h
        · omega
      subst hz'
      have hes : es = [] := List.eq_nil_of_length_eq_zero e5'
      subst hes
      simp only [Nat.zero_mul, show Array.range 0 = #[] from rfl, Array.map_empty] at e1
      simp [Instr.buildSlice, run_underlying hu, run_size (hT e he), show Array.range 0 = #[] from rfl, e1, newRow]
    · simp only [Instr.buildSlice, Sem.run_bind, run_underlying hu, run_size (hT e he), Result.andThen_ok]
      rw [if_neg (by omega), if_neg hz]
      simp only [zeroValue, typeInfo, h1, h4, Sem.run_bind, run_program, Result.andThen_ok, Sem.run_pure, e1, newRow, run_newObj_alloc]
  have hsz : us'.size = len * (T e).size := by
    have := e2.1
    rw [this, flat_length (k := (T e).size) es e4, e5']
  have how : (w.alloc (.cells us' e)).ownsRow w.heap.size e (T e).size (.slice (some ⟨w.heap.size, 0, none⟩) es.length len) es.length us'.toList :=
    ⟨by simp [hsz, e5'], .inr ⟨w.heap.size, len, us', rfl, Nat.le_refl _, heap_alloc_new w _, by omega, hml, by simpa using hsz, by rw [List.take_of_length_le (by simp [hsz, e5'])]⟩⟩
  have hR1 : Rel (G.push .dead) (sg ++ [.dead]) w := push_dead hR
  have hfree : free (sg ++ [Box.dead]) sg.length := by
    unfold free
    rw [List.getElem?_append_right (Nat.le_refl _)]; simp
  obtain ⟨G', a1, a2, a3, a4⟩ := new_row hR1 hfree (below_alloc w (.cells us' e)) (Nat.le_refl _) rfl how e4 e3 (by rw [Array.toArray_toList]; exact e2.push .dead)
  have hset : (sg ++ [Box.dead]).set sg.length (.row false e (T e).size es false) = sg ++ [.row false e (T e).size es false] := by
    rw [List.set_append_right _ _ (Nat.le_refl _)]; simp
  rw [hset] at a1
  refine ⟨_, _, G', hrun, a1, Gh.le_trans (G.push_le .dead) a2, a3, ?_⟩
  rw [e5'] at a4 ⊢
  exact a4
end
section
variable {P : Program} {T : TypeId → TyI} {me : Meth} {cf : CallF} {ops : Array Oper} {st st1 : St} {Q : Out → St → Prop}
theorem RunOp.buildRow (hT : TyT P T) {o : Oper} {d : Nat} {t e : TypeId} {len : Nat} {ps : Array (Nat × Operand)} {parts : List (Nat × PV)} {es : List PV} (ho : o.op = .buildSlice t len ps) (hdst : o.dst = some d) (hd : d < st.n) (hte : (T t).d = .slice e)
    (hp : evPs st.tm ps.toList = some parts) (h : buildSliceC T t len parts = some (.sl .f es)) :
    RunOp P o st .normal ⟨putT st.tm d (.ms st.sg.length es.length), st.n, st.sg ++ [.row false e (T e).size es false]⟩ := by
  refine ⟨by simp, fun r n G a w db next Q hs k => ⟨fun f _ => trivial, ?_⟩⟩
  obtain ⟨p1, p2⟩ := evPs_rep hs.tm hp
  obtain ⟨u, w', G', hrun, hR', hle, hdf', hv⟩ := buildRow_ok (P := P) hT hs.rel hte (vals := ps.map fun p => (p.1, a.eval p.2)) (by simpa using p1) (fun j p q h1 h2 => p2 j p q h1 (by simpa using h2)) h
  have hlM := hle.leM st.sg.length
  have hS : RelS G' ⟨putT st.tm d (.ms st.sg.length es.length), st.n, st.sg ++ [.row false e (T e).size es false]⟩ (a.put o.dst u) w' r db := by
    refine ⟨hR', ?_, (put_size a o.dst u).trans hs.n, ?_, fun l hl => ?_⟩
    · have := (hs.tm.mono hle).putD (dst := o.dst) (v := .ms st.sg.length es.length) (u := u) (fun d' e' => by rw [hdst] at e'; cases e'; exact hs.n ▸ hd) hv
      rw [hdst] at this ⊢
      exact this
    · obtain ⟨own, h1, h2⟩ := hs.dfr
      exact ⟨own, by rw [put_defers]; exact h1, by rw [hdf']; exact h2.1, h2.2⟩
    · obtain ⟨id, d', lr, h1, h2⟩ := hs.rd l hl
      have hid := (List.getElem?_eq_some_iff.1 h2).1
      obtain ⟨lr', h3, h4⟩ := loops_stay (lr := lr) hR' hlM hid h1 (fun hg => by
        rw [List.getElem?_append_left hid, h2] at hg; cases hg)
      exact ⟨id, d', lr', h3, h4⟩
  have hsem : o.semAt (FW r).round a.eval = execOp a.eval o := Oper.semAt_eq _ _ _ (fun c e => by rw [ho] at e; cases e)
  rw [hsem]
  have hx : (execOp a.eval o).run P w = .ok (.value u) w' := by
    simp [execOp, ho, hrun]
  rcases k .normal (a.put o.dst u) w' G' trivial hS hlM with ⟨_, hn⟩ | ⟨hn, _⟩
  · rw [hx]; exact hn
  · exact absurd rfl hn
theorem RegG.buildRow {i : Nat} {o : Oper} {os : List Oper} {d : Nat} {t e : TypeId} {len : Nat} {ps : Array (Nat × Operand)} {parts : List (Nat × PV)} {es : List PV} (hw : wantC ops st.tm o = some true) (ho : o.op = .buildSlice t len ps) (hdst : o.dst = some d) (hd : Nat.blt d st.n = true) (hte : (T t).d = .slice e)
    (hp : evPs st.tm ps.toList = some parts) (h : buildSliceC T t len parts = some (.sl .f es)) (e1 : (⟨putT st.tm d (.ms st.sg.length es.length), st.n, st.sg ++ [.row false e (T e).size es false]⟩ : St) = st1) (hq : RegG P me cf T ops (i + 1) os st1 Q) : RegG P me cf T ops i (o :: os) st Q := by
  intro hT hcf hme hos
  have hi : ops[i]? = some o := hos 0 o rfl
  have hos' : ∀ (j : Nat) (o : Oper), os[j]? = some o → ops[i + 1 + j]? = some o := fun j o' hj => by
    have := hos (j + 1) o' (by simpa using hj)
    rw [show i + 1 + j = i + (j + 1) by omega]
    exact this
  obtain ⟨out, st', h1, h2⟩ := hq hT hcf hme hos'
  refine ⟨out, st', ?_, h2⟩
  rw [List.length_cons, List.range'_succ]
  subst e1
  exact RunOps.cons hi hw (RunOp.buildRow hT ho hdst (by simpa using hd) hte hp h) h1
end
end Go.Pv
