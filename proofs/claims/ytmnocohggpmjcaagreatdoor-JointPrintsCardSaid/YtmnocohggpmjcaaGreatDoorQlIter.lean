/- The pure-value layer, part 41: iterators: what they yield, and the loops over them. -/
import Derived.Test.YtmnocohggpmjcaaGreatDoorQdWalk
import Derived.Test.YtmnocohggpmjcaaGreatDoorQcEval
set_option linter.all false
namespace Go.Pv
open Go Go.RowKit
inductive FoldR (R : List PV → List Box → Bool → List Box → Prop) : List (List PV) → List Box → Bool → List Box → Prop
  | nil (low : List Box) : FoldR R [] low true low
  | stop {e : List PV} {es : List (List PV)} {low low' : List Box} (h : R e low false low') : FoldR R (e :: es) low false low'
  | next {e : List PV} {es : List (List PV)} {low low1 low' : List Box} {b : Bool} (h : R e low true low1) (k : FoldR R es low1 b low') : FoldR R (e :: es) low b low'
section
variable {R : List PV → List Box → Bool → List Box → Prop}
theorem FoldR.split : ∀ {a b : List (List PV)} {low low' : List Box} {r : Bool}, FoldR R (a ++ b) low r low' → (r = false ∧ FoldR R a low false low') ∨ ∃ low1, FoldR R a low true low1 ∧ FoldR R b low1 r low'
  | [], b, low, low', r, h => .inr ⟨low, .nil low, h⟩
  | e :: a, b, low, low', r, h => by
    cases h with
    | stop h => exact .inl ⟨rfl, .stop h⟩
    | next h k =>
      rcases FoldR.split (a := a) k with ⟨hr, h2⟩ | ⟨low1, h2, h3⟩
      · subst hr; exact .inl ⟨rfl, .next h h2⟩
      · exact .inr ⟨low1, .next h h2, h3⟩
end
def OwnOk (m : Nat) (own : List Box) : Prop := ∀ b ∈ own, b.Lt (m + own.length)
theorem Box.Lt.mono {m n : Nat} (hmn : m ≤ n) {b : Box} (h : b.Lt m) : b.Lt n := by
  cases b <;> first | exact trivial | skip
  · exact fun c hc => (h c hc).mono hmn
  · exact fun c hc => (h c hc).mono hmn
  · exact ⟨fun c hc => (h.1 c hc).mono hmn, fun c hc => (h.2 c hc).mono hmn⟩
  · exact fun t v e => (h t v e).mono hmn
/-- A yield: a round that changes the lower boxes alone, whatever boxes lie above them. -/
def YR (P : Program) (id : Nat) (e : List PV) (low : List Box) (b : Bool) (low' : List Box) : Prop :=
  low'.length = low.length ∧ OwnOk 0 low' ∧ ∀ own, OwnOk low.length own → YieldOk P id e (low ++ own) (.ret (.bool b)) (low' ++ own) ∧ SameLoops (low ++ own) (low' ++ own)
/-- A function that yields the listed things, one after the other, as long as it is asked for more. -/
def IterOk (P : Program) (g : FuncId) (argsOf : Nat → List PV) (L : List (List PV)) : Prop :=
  ∀ id low b low', OwnOk 0 low → id < low.length → FoldR (YR P id) L low b low' → ∃ v, CallOk P g (argsOf id) low (.ret v) low' ∧ SameLoops low low'
def lrOf (tm : List (Nat × PV)) (n : Nat) (ps : List Nat) (as0 b : Code) (s : LoopState) (p : Option Code) : LoopR := { tm := tm, n := n, params := ps, assign := as0, body := b, st := s, pend := p }
section
variable {P : Program} {tm : List (Nat × PV)} {n : Nat} {ps : List Nat} {as0 b : Code}
/-- One round, whatever boxes lie above. -/
def YRun (P : Program) (tm : List (Nat × PV)) (n : Nat) (ps : List Nat) (as0 b : Code) (s own : List Box) (e : List PV) (out : Out) (s' : List Box) : Prop :=
  RunQ P as0 ⟨putPs tm ps e, n, s ++ (.loop (lrOf tm n ps as0 b .ready none) :: own)⟩ (fun o s1 => o = .normal ∧ ∃ B, s1.sg = s ++ (.loop (lrOf tm n ps as0 b .ready none) :: B) ∧
    RunQ P b ⟨s1.tm, s1.n, s ++ (.loop (lrOf tm n ps as0 b .busy none) :: B)⟩ (fun o2 s2 => o2 = out ∧ ∃ C, s2.sg = s' ++ (.loop (lrOf tm n ps as0 b .busy none) :: (own ++ C))))
theorem get_mid' {α : Type} (s : List α) (x : α) (t : List α) : (s ++ x :: t)[s.length]? = some x := by
  rw [List.getElem?_append_right (Nat.le_refl _)]; simp
theorem set_mid' {α : Type} (s : List α) (x y : α) (t : List α) : (s ++ x :: t).set s.length y = s ++ y :: t := by
  rw [List.set_append_right _ _ (Nat.le_refl _)]; simp
theorem setLoop_mid (s : List Box) (r : LoopR) (t : List Box) (st : LoopState) (p : Option Code) : setLoop (s ++ .loop r :: t) s.length st p = s ++ .loop { r with st := st, pend := p } :: t := by
  unfold setLoop
  rw [get_mid']
  exact set_mid' _ _ _ _
theorem YieldOk.cut {id : Nat} {args : List PV} {sg sg' : List Box} {b : Bool} (h : YieldOk P id args sg (.ret (.bool b)) sg') (m : Nat) (hm : sg.length ≤ m) (hm' : m ≤ sg'.length) (hlt : ∀ b ∈ sg'.take m, b.Lt m) : YieldOk P id args sg (.ret (.bool b)) (sg'.take m) :=
  ⟨by simp; omega, fun n G w us l d hR hs hL => by
    obtain ⟨fn, tmps, as1, body, hy, hr⟩ := h.2 n G w us l d hR hs hL
    refine ⟨fn, tmps, as1, body, hy, RoundIn.mono hr fun e w' ⟨G', a1, a2, a3, a4⟩ => ?_⟩
    obtain ⟨b1, b2⟩ := cut_rel a1 m hlt
    refine ⟨_, b1, a2.trans b2 hm, a3, ?_⟩
    cases e with
    | returned u => 
      have a4' : Rep G' (.bool b) u := a4
      obtain rfl := rep_bool a4'
      exact .bool
    | panicked ch => exact a4
    | outgrown => exact a4⟩
theorem yield_of {s own s' : List Box} {e : List PV} {out : Out} {j : Option Code} (hpl : ps.length = e.length) (hps : ∀ p ∈ ps, p < n) (hs : s'.length = s.length) (ho : OwnOk (s.length + 1) own) (hb : ∀ x ∈ s', x.Lt (s.length + 1)) (htm : ∀ t v, getT tm t = some v → Pv.Lt (s.length + 1) v)
    (hj : jumpOf out = some j) (h : YRun P tm n ps as0 b s own e out s') :
    YieldOk P s.length e (s ++ (.loop (lrOf tm n ps as0 b .ready none) :: own)) (.ret (.bool j.isNone)) (s' ++ (.loop (lrOf tm n ps as0 b (if j.isNone then .ready else .done) j) :: own)) := by
  obtain ⟨o, s1, hr1, rfl, B, hB, o2, s2, hr2, rfl, C, hC⟩ := h
  have hB1 : s1.sg[s.length]? = some (.loop (lrOf tm n ps as0 b .ready none)) := by rw [hB]; exact get_mid' _ _ _
  have hr2' : Run P b { s1 with sg := setLoop s1.sg s.length .busy none } o2 s2 := by
    rw [hB, setLoop_mid]
    exact hr2
  have key := YieldOk.of (P := P) (id := s.length) (args := e) (sg := s ++ (.loop (lrOf tm n ps as0 b .ready none) :: own)) (r := lrOf tm n ps as0 b .ready none) (r1 := lrOf tm n ps as0 b .ready none) (get_mid' _ _ _) hpl hps hr1 hB1 rfl hr2' hj
  have e1 : setLoop s2.sg s.length (if j.isNone then .ready else .done) j = (s' ++ .loop (lrOf tm n ps as0 b (if j.isNone then .ready else .done) j) :: own) ++ C := by
    rw [hC, ← hs, setLoop_mid]
    simp [lrOf]
  rw [e1] at key
  have := key.cut (s.length + 1 + own.length) (by simp; omega) (by simp; omega) (fun x hx => ?_)
  · rw [List.take_left' (by simp; omega)] at this
    exact this
  · rw [List.take_left' (by simp; omega)] at hx
    rcases List.mem_append.1 hx with hx | hx
    · exact (hb x hx).mono (by omega)
    · rcases List.mem_cons.1 hx with rfl | hx
      · exact fun t v hv => (htm t v hv).mono (by omega)
      · exact ho x hx
/-- What a round comes to. -/
inductive RndOk (P : Program) (tm : List (Nat × PV)) (n : Nat) (ps : List Nat) (as0 b : Code) (s : List Box) (e : List PV) (I' : List Box → Prop) (QX : Out → List Box → Prop) : Prop
  | next (s' : List Box) (h : I' s') (hr : ∀ own, OwnOk (s.length + 1) own → YRun P tm n ps as0 b s own e .normal s')
  | ret (s' : List Box) (hs : s'.length = s.length) (hb : ∀ x ∈ s', x.Lt (s.length + 1)) (hl : SameLoops s s') (h : QX .ret s') (hr : ∀ own, OwnOk (s.length + 1) own → YRun P tm n ps as0 b s own e .ret s')
  | exit (j : Nat) (s' : List Box) (hs : s'.length = s.length) (hb : ∀ x ∈ s', x.Lt (s.length + 1)) (hl : SameLoops s s') (h : QX (.exit j) s') (hr : ∀ own, OwnOk (s.length + 1) own → YRun P tm n ps as0 b s own e (.exit j) s')
theorem sameLoops_app {s s' : List Box} (h : SameLoops s s') (hlen : s'.length = s.length) {r r' : LoopR} (own : List Box) : SameLoops (s ++ .loop r :: own) (s' ++ .loop r' :: own) := by
  refine ⟨fun id lr e => ?_, fun id lr e => ?_⟩
  · by_cases h1 : id < s.length
    · rw [List.getElem?_append_left h1] at e
      rw [List.getElem?_append_left (by omega)]
      exact h.1 id lr e
    · rw [List.getElem?_append_right (by omega)] at e
      rw [List.getElem?_append_right (by omega), hlen]
      cases hk : id - s.length with
      | zero => exact ⟨r', rfl⟩
      | succ k => rw [hk] at e; exact ⟨lr, e⟩
  · by_cases h1 : id < s.length
    · rw [List.getElem?_append_left (by omega)] at e
      rw [List.getElem?_append_left h1]
      exact h.2 id lr e
    · rw [List.getElem?_append_right (by omega), hlen] at e
      rw [List.getElem?_append_right (by omega)]
      cases hk : id - s.length with
      | zero => exact ⟨r, rfl⟩
      | succ k => rw [hk] at e; exact ⟨lr, e⟩
/-- The loop over an iterator, by what holds at the head of its rounds. -/
theorem RunQ.range {f : Operand} {pa : Array Tmp} {g : FuncId} {first cap : List PV} {sg : List Box} {Q : Out → St → Prop} (hf : evO tm f = some (.fn (.func g) first cap)) (he : Enters P g) {L : List (List PV)} (hit : IterOk P g (fun id => first ++ (.yl id :: cap)) L)
    (hpl : ∀ e ∈ L, pa.toList.length = e.length) (hps : ∀ p ∈ pa.toList, p < n) (htm : ∀ t v, getT tm t = some v → Pv.Lt (sg.length + 1) v) (I : Nat → List Box → Prop) (h0 : I 0 sg)
    (hI : ∀ i s, I i s → s.length = sg.length ∧ (∀ x ∈ s, x.Lt (sg.length + 1)) ∧ SameLoops sg s)
    (hr : ∀ i e s, L[i]? = some e → I i s → RndOk P tm n pa.toList as0 b s e (I (i + 1)) (fun o s' => Q o ⟨tm, n, s' ++ [.gone]⟩))
    (hend : ∀ s, I L.length s → Q .normal ⟨tm, n, s ++ [.gone]⟩) : RunQ P (.rangeFunc f pa as0 b) ⟨tm, n, sg⟩ Q := by
  have lrlt : ∀ st p, (Box.loop (lrOf tm n pa.toList as0 b st p)).Lt (sg.length + 1) := fun st p => htm
  have own1 : ∀ {s : List Box} {st p}, s.length = sg.length → (∀ x ∈ s, x.Lt (sg.length + 1)) → OwnOk 0 (s ++ [.loop (lrOf tm n pa.toList as0 b st p)]) := fun {s st p} hl hb x hx => by
    have e : 0 + (s ++ [Box.loop (lrOf tm n pa.toList as0 b st p)]).length = sg.length + 1 := by simp [hl]
    rw [e]
    rcases List.mem_append.1 hx with hx | hx
    · exact hb x hx
    · simp at hx; subst hx; exact lrlt st p
  have key : ∀ (k i : Nat) (s : List Box), i + k = L.length → I i s → ∃ bb low', FoldR (YR P sg.length) (L.drop i) (s ++ [.loop (lrOf tm n pa.toList as0 b .ready none)]) bb low' ∧
      ∃ s', s'.length = sg.length ∧ SameLoops sg s' ∧ ((I L.length s' ∧ low' = s' ++ [.loop (lrOf tm n pa.toList as0 b .ready none)]) ∨ (Q .ret ⟨tm, n, s' ++ [.gone]⟩ ∧ low' = s' ++ [.loop (lrOf tm n pa.toList as0 b .done (some .ret))]) ∨
        ∃ j, Q (.exit j) ⟨tm, n, s' ++ [.gone]⟩ ∧ low' = s' ++ [.loop (lrOf tm n pa.toList as0 b .done (some (.exit j)))]) := by
    intro k
    induction k with
    | zero =>
      intro i s hk hs
      obtain rfl : i = L.length := by omega
      obtain ⟨a1, a2, a3⟩ := hI _ _ hs
      refine ⟨true, _, by rw [List.drop_length]; exact .nil _, s, a1, a3, .inl ⟨hs, rfl⟩⟩
    | succ k ih =>
      intro i s hk hs
      obtain ⟨a1, a2, a3⟩ := hI _ _ hs
      have hlt : i < L.length := by omega
      have hget : L[i]? = some L[i] := List.getElem?_eq_getElem hlt
      have hdrop : L.drop i = L[i] :: L.drop (i + 1) := List.drop_eq_getElem_cons hlt
      have hple := hpl L[i] (List.getElem_mem hlt)
      have yr : ∀ {s' : List Box} {out : Out} {j : Option Code}, jumpOf out = some j → s'.length = s.length → (∀ x ∈ s', x.Lt (sg.length + 1)) → SameLoops s s' → (∀ own, OwnOk (s.length + 1) own → YRun P tm n pa.toList as0 b s own L[i] out s') →
          YR P sg.length L[i] (s ++ [.loop (lrOf tm n pa.toList as0 b .ready none)]) j.isNone (s' ++ [.loop (lrOf tm n pa.toList as0 b (if j.isNone then .ready else .done) j)]) := by
        intro s' out j hj hl hb hsl hy
        refine ⟨by simp [hl], own1 (by omega) hb, fun own ho => ?_⟩
        have ho' : OwnOk (s.length + 1) own := by simpa using ho
        have := yield_of hple hps hl ho' (by rw [a1]; exact hb) (by rw [a1]; exact htm) hj (hy own ho')
        rw [a1] at this
        refine ⟨by simpa using this, ?_⟩
        have := sameLoops_app (r := lrOf tm n pa.toList as0 b .ready none) (r' := lrOf tm n pa.toList as0 b (if j.isNone then .ready else .done) j) hsl hl own
        simpa using this
      rw [hdrop]
      cases hr i _ s hget hs with
      | next s1 h1 hy =>
        obtain ⟨b1, b2, b3⟩ := hI _ _ h1
        obtain ⟨bb, low', c1, c2⟩ := ih (i + 1) s1 (by omega) h1
        have hsl : SameLoops s s1 := ⟨fun id lr e => by obtain ⟨x, hx⟩ := a3.2 id lr e; exact b3.1 id x hx, fun id lr e => by obtain ⟨x, hx⟩ := b3.2 id lr e; exact a3.1 id x hx⟩
        exact ⟨bb, low', .next (yr (j := none) rfl (by omega) b2 hsl hy) c1, c2⟩
      | ret s1 h1 h2 h3 h4 hy =>
        exact ⟨false, _, .stop (yr (j := some .ret) rfl h1 (by rw [← a1]; exact h2) h3 hy), s1, by omega, a3.trans h3, .inr (.inl ⟨h4, rfl⟩)⟩
      | exit j s1 h1 h2 h3 h4 hy =>
        exact ⟨false, _, .stop (yr (j := some (.exit j)) rfl h1 (by rw [← a1]; exact h2) h3 hy), s1, by omega, a3.trans h3, .inr (.inr ⟨j, h4, rfl⟩)⟩
  obtain ⟨i1, i2, i3⟩ := hI _ _ h0
  obtain ⟨bb, low', hfold, s', hl', hsl', hcase⟩ := key L.length 0 sg (by omega) h0
  obtain ⟨v, hcall, hsl⟩ := hit sg.length _ bb low' (own1 rfl i2) (by simp) (by simpa using hfold)
  have fin : ∀ {r : LoopR} {o : Out}, low' = s' ++ [.loop r] → r.st ≠ .busy → (match r.pend with
      | none => o = .normal ∧ (⟨tm, n, s' ++ [.gone]⟩ : St) = { tm := tm, n := n, sg := low'.set sg.length .gone }
      | some c => Run P c { tm := tm, n := n, sg := low'.set sg.length .gone } o ⟨tm, n, s' ++ [.gone]⟩) → Q o ⟨tm, n, s' ++ [.gone]⟩ → RunQ P (.rangeFunc f pa as0 b) ⟨tm, n, sg⟩ Q := by
    intro r o e hb hk hq
    refine ⟨o, _, Run.rangeFunc (st := ⟨tm, n, sg⟩) hf he hcall hsl ?_ hb hk, hq⟩
    rw [e]
    show (s' ++ [Box.loop r])[sg.length]? = _
    rw [← hl']
    exact get_mid' _ _ _
  have hset : ∀ {r : LoopR}, (s' ++ [Box.loop r]).set sg.length .gone = s' ++ [.gone] := by
    intro r
    rw [← hl']
    exact set_mid' _ _ _ _
  rcases hcase with ⟨c1, rfl⟩ | ⟨c1, rfl⟩ | ⟨j, c1, rfl⟩
  · exact fin rfl (by simp [lrOf]) (by simp only [lrOf]; exact ⟨trivial, by rw [hset]⟩) (hend _ c1)
  · exact fin rfl (by simp [lrOf]) (by simp only [lrOf]; rw [hset]; exact Run.ret _) c1
  · exact fin rfl (by simp [lrOf]) (by simp only [lrOf]; rw [hset]; exact Run.exit j _) c1
end
end Go.Pv
namespace Go.Pv
open Go Go.RowKit
section
variable {P : Program} {T : TypeId → TyI}
open Classical in
/-- The table with one call more, at these arguments and boxes alone. -/
noncomputable def cfOne (cf : CallF) (g : FuncId) (args : List PV) (sg : List Box) (r : PRes) (sg' : List Box) : CallF := fun g1 a1 s1 => if g1 = g ∧ a1 = args ∧ s1 = sg then some (r, sg') else cf g1 a1 s1
theorem cfOne_ok {cf : CallF} (h : CallFOk P cf) {g : FuncId} {args : List PV} {sg sg' : List Box} {r : PRes} (he : Enters P g) (hc : CallOk P g args sg r sg') (hs : SameLoops sg sg') : CallFOk P (cfOne cf g args sg r sg') := by
  intro f a s r1 s1 e
  unfold cfOne at e
  split at e
  · rename_i hh
    obtain ⟨rfl, rfl, rfl⟩ := hh
    cases e
    exact ⟨he, hc, hs⟩
  · exact h _ _ _ _ _ e
def stepOY (me : Meth) (cf : CallF) (yf : YieldF) (T : TypeId → TyI) (ops : Array Oper) (st : St) (o : Oper) : Option (Out × St) :=
  match wantC ops st.tm o with
  | some true => evOp me cf yf T st o
  | some false => if dOk o st.n = true then some (.normal, { tm := putD st.tm o.dst (.tuple []), n := st.n, sg := st.sg }) else none
  | none => none
def RegQY (me : Meth) (cf : CallF) (yf : YieldF) (T : TypeId → TyI) (ops : Array Oper) (os : List Oper) (st : St) (Q : Out → St → Prop) : Prop :=
  ∃ o st', evOpsL me cf yf T ops os st = some (o, st') ∧ Q o st'
variable {me : Meth} {cf : CallF} {yf : YieldF} {ops : Array Oper} {st st1 : St} {Q : Out → St → Prop}
theorem RegQY.nil (h : Q .normal st) : RegQY me cf yf T ops [] st Q := ⟨_, _, rfl, h⟩
theorem RegQY.step {o : Oper} {os : List Oper} (h : stepOY me cf yf T ops st o = some (.normal, st1)) (hq : RegQY me cf yf T ops os st1 Q) : RegQY me cf yf T ops (o :: os) st Q := by
  obtain ⟨o', st', h1, h2⟩ := hq
  refine ⟨o', st', ?_, h2⟩
  unfold stepOY at h
  unfold evOpsL
  split at h
  · rename_i hw; simp only [hw, h]; exact h1
  · rename_i hw
    split at h <;> cases h
    rename_i hd
    simp only [hw, hd, if_true]; exact h1
  · cases h
/-- A call in a region that draws, which does more than leave a row. -/
theorem DrawQ.full {o : Oper} {os : List Oper} {fid : Nat} {K : List DRec → St → Prop} (hn : drawNew o.op = true) (hd : dOk o st.n = true) (hw : wantC ops st.tm o = some true) (h0 : opD (oraOf cf) T st.tm st.sg fid o.op = none) (h : evOp me cf noY T st o = some (.normal, st1))
    (hq : DrawQ me cf T ops os (fid + 1) st1 (fun rs s => K ({ want := true, fid, v := .tuple [], ef := none, rb := fid :: opIds st.tm o.op, full := some st1 } :: rs) s)) : DrawQ me cf T ops (o :: os) fid st K := by
  obtain ⟨rs, st', h1, h2⟩ := hq
  refine ⟨_ :: rs, st', ?_, h2⟩
  unfold txtL
  simp only [hd, hw, h0, h, hn, if_true, app]
  rw [h1]
/-- A function's contract among boxes, out of its body's walk: the boxes above are dropped. -/
theorem CallOk.ofB (hT : TyT P T) {f : FuncId} {fn : Func} {c : Code} {args : List PV} {sg sg' : List Box} {n0 : Nat} {v : PV} (hf : P.funcs[f]? = some fn) (hb : fn.body = some c) (hn0 : n0 = args.length + (fn.ntmps - args.length))
    (hrun : RunQ P c ⟨argT 0 args, n0, sg⟩ (fun o st' => o.ends = true ∧ SameLoops sg st'.sg ∧ resC T st' fn.results = some v ∧ ∃ C, st'.sg = sg' ++ C)) (hlen : sg'.length = sg.length) (hlt : ∀ b ∈ sg', b.Lt sg.length) (hv : Pv.Lt sg.length v) : CallOk P f args sg (.ret v) sg' := by
  obtain ⟨o, st', hr, h1, h2, h3, C, h4⟩ := hrun
  have := CallOk.body hT hf hb hn0 hr h1 h3 h2
  have ht : st'.sg.take sg.length = sg' := by rw [h4]; exact List.take_left' hlen
  have := this.cut (by rw [ht]; exact hlt) hv
  rw [ht] at this
  exact this
theorem SameLoops.symm {a b : List Box} (h : SameLoops a b) : SameLoops b a := ⟨h.2, h.1⟩
theorem SameLoops.app {a b : List Box} (C : List Box) (h : noLoops C = true) (k : SameLoops a b) : SameLoops a (b ++ C) := by
  have hC : ∀ id lr, b.length ≤ id → (b ++ C)[id]? ≠ some (.loop lr) := fun id lr hid e => by
    rw [List.getElem?_append_right hid] at e
    have := List.all_eq_true.1 h _ (List.mem_of_getElem? e)
    simp [isLoopB] at this
  refine ⟨fun id lr e => ?_, fun id lr e => ?_⟩
  · obtain ⟨x, hx⟩ := k.1 id lr e
    exact ⟨x, by rw [List.getElem?_append_left (List.getElem?_eq_some_iff.1 hx).1]; exact hx⟩
  · by_cases hid : id < b.length
    · rw [List.getElem?_append_left hid] at e; exact k.2 id lr e
    · exact absurd e (hC id lr (by omega))
end
end Go.Pv
namespace Go.Pv
open Go Go.RowKit
end Go.Pv
