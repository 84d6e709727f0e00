/- Contracts: parsed, the program's. -/
import Derived.Test.YtmnocohggpmjcaaGreatDoorQnbNum
import Derived.Test.YtmnocohggpmjcaaGreatDoorQlLoop
import Derived.Test.YtmnocohggpmjcaaGreatDoorQdWalk
import Derived.Test.YtmnocohggpmjcaaGreatDoorQgEnds
import Derived.Test.YtmnocohggpmjcaaGreatDoorQlIter
set_option linter.all false
namespace Go.Pv
open Go Go.RowKit Go.Proofs
set_option maxRecDepth 200000
set_option maxHeartbeats 8000000
theorem Ghost.freezeAgr (t id : Nat) {tm tm' : List (Nat × PV)} {n m k : Nat} {x : Int} {e : TypeId} {sg sg' : List Box} {z : Bool} {es : List PV} (h : getT tm t = some (.agg [ii x, .ms id m])) (hb : sg[id]? = some (.row z e k es false))
    (hm : es.length = m) (hc : closedL es = true) (e1 : sg.set id (.row z e k es true) = sg') (e2 : putT tm t (.agg [ii x, .sl (if z = true then .n else .a) es]) = tm') : Ghost ⟨tm, n, sg⟩ ⟨tm', n, sg'⟩ := by
  have hrows : rowsOf sg [id] = sg' := by
    unfold rowsOf
    simp only [hb, rowsOf]
    rw [frzL_closed (n := 4) (flat es) sg (closedL_flat es hc)]
    simp only [regroup_self]
    exact e1
  have hid : sg'[id]? = some (.row z e k es true) := by
    rw [← e1]
    exact List.getElem?_set_self (List.getElem?_eq_some_iff.1 hb).1
  have hv1 : view1 sg' (.ms id m) = some (.sl (if z = true then .n else .a) es) := by
    unfold view1
    simp [hid, hm]
  have hv : viewV sg' (.agg [ii x, .ms id m]) = some (.agg [ii x, .sl (if z = true then .n else .a) es]) := by
    unfold viewV
    simp only [mapO, hv1]
    rfl
  have g1 : Ghost ⟨tm, n, sg⟩ ⟨tm, n, sg'⟩ := by
    have := Ghost.rows [id] sg ⟨tm, n, sg⟩ rfl
    rw [hrows] at this
    exact this
  have g2 : Ghost ⟨tm, n, sg'⟩ ⟨tm', n, sg'⟩ := by
    have := Ghost.view (n := n) (sg := sg') h hv
    rw [e2] at this
    exact this
  exact g1.trans g2
theorem RegG.stop {P : Program} {T : TypeId → TyI} {me : Meth} {cf : CallF} {ops : Array Oper} {st st1 : St} {Q : Out → St → Prop} {i : Nat} {o : Oper} {os : List Oper} {v : PV} (h : stepO me cf T ops st o = some (.panic v, st1)) (hq : Q (.panic v) st1) : RegG P me cf T ops i (o :: os) st Q := by
  intro hT hcf hme hos
  have hi : ops[i]? = some o := hos 0 o rfl
  refine ⟨.panic v, st1, ?_, hq⟩
  rw [List.length_cons, List.range'_succ]
  unfold stepO at h
  split at h
  · rename_i hw
    exact RunOps.stop hi hw (by simp) (evOp_ok hT hcf noY_ok hme h)
  · split at h <;> cases h
  · cases h
theorem frzX_agr {d : Option Nat} {n : Nat} {sg : List Box} {vs : List PV} (hc : closedL vs = false) : frzX d (n + 1) sg (.agg vs) = (.agg (frzL (frzX d n) sg vs).1, (frzL (frzX d n) sg vs).2) := by
  unfold frzX
  rw [if_neg (by simp [PV.closed, hc])]
  rfl
theorem leave_agr {sg : List Box} {id : Nat} {z : Bool} {e : TypeId} {k : Nat} {es : List PV} {frz : Bool} (h : sg[id]? = some (.row z e k es frz)) (hc : closedL es = true) {m : Nat} (hm : m = es.length) {c : PV} (hcc : c.closed = true) : leaveC0 0 (.agg [c, .ms id m]) sg = (.agg [c, .sl (if z then .n else .a) es], []) :=
  leaveF (by rw [frzX_agr (n := 7) (by simp [closedL, PV.closed])]; simp only [frzL, frzX_closed (n := 6) hcc, frzX_row (n := 5) h hc hm]) (by simp [PV.closed, closedL, hc, hcc])
def c157 : List PV → List Box → Option (PRes × List Box)
  | [.int .i64 _], sg => some (.ret (.str figW), sg)
  | _, _ => none
theorem c157_ok : ConOk Tryz.prog 157 c157 := ConOk.of0 (ent Tryz.func157 rfl) fun args sg r sg' h => by
  unfold c157 at h
  split at h <;> cases h
  exact ⟨_, rfl, rfl, rfl, word_157 _⟩
def c158 : List PV → List Box → Option (PRes × List Box)
  | [v], sg => match decLb v with
    | some _ => some (.ret (.str limbW), sg)
    | none => none
  | _, _ => none
theorem c158_ok : ConOk Tryz.prog 158 c158 := ConOk.of0 (ent Tryz.func158 rfl) fun args sg r sg' h => by
  unfold c158 at h
  split at h <;> try (cases h; done)
  split at h <;> cases h
  rename_i hx
  obtain rfl := decLb_inv _ _ hx
  exact ⟨_, rfl, rfl, rfl, word_158 _⟩
def figV (f : Int × List Lb) : PV := .agg [ii f.1, .sl (if decide (f.2.length = 0) = true then .n else .a) (f.2.map encLb)]
def parsR (t : List UInt8) : PRes := match parsedE t with
  | .ok f => .ret (figV f)
  | .error e => .pan (noneV e)
def parsQ (t : List UInt8) (o : Out) (st' : St) : Prop := match parsedE t with
  | .ok f => o.ends = true ∧ sameLoopsC [] st'.sg = true ∧ ∃ v', resC TT st' Tryz.f123.results = some v' ∧ leaveC0 0 v' st'.sg = (figV f, [])
  | .error e => o = .panic (noneV e) ∧ sameLoopsC [] st'.sg = true
def cfNq : CallF := cfAdd (cfAdd (cfAdd (cfAdd (cfAdd (cfAdd cf0 154 c154s) 155 c155) 156 c156) 157 c157) 158 c158) 121 c121
theorem cfNq_ok : CallFOk Tryz.prog cfNq := cfAdd_ok (cfAdd_ok (cfAdd_ok (cfAdd_ok (cfAdd_ok (cfAdd_ok cf0_ok c154s_ok) c155_ok) c156_ok) c157_ok) c158_ok) c121_ok
/-- The table, as if a call that panics answered. -/
def cfFk (cf : CallF) (g0 : FuncId) (v : PV) : CallF := fun g args sg => if g = g0 then some (.ret v, sg) else cf g args sg
theorem parsed_run (t : List UInt8) (ht : t.length ≤ 800) (c : Code) (hc : Tryz.f123.body = some c) : RunQ Tryz.prog c ⟨argT 0 [.str t], 66, []⟩ (parsQ t) := by
  obtain rfl := Option.some.inj (show some _ = some c from hc)
  clear hc
  have ht' : t.length ≤ 100000 := by omega
  have hW := splF_len 10 t
  have hWe : ∀ x ∈ splF 10 t, x.length ≤ 100000 := fun x hx => by have := splF_each hx; omega
  have hE : parsedE t = (match splF 10 t with
    | r :: R => if 2 ≤ R.length then
        match toldE figW 1 r with
        | .error e => .error e
        | .ok n => match limbsE (R.take (R.length - 2)) with
          | .error e => .error e
          | .ok l => if textF (n.getD 0 0) l = t then .ok (n.getD 0 0, l) else .error t
      else .error t
    | [] => .error t) := rfl
  generalize hWW : splF 10 t = W at hW hWe hE
  obtain ⟨r0, R, rfl⟩ : ∃ r R, W = r :: R := by
    cases W with
    | nil => simp at hW
    | cons r R => exact ⟨r, R, rfl⟩
  dsimp only at hE
  have hr0 := hWe r0 (List.mem_cons_self ..)
  have hx0 : ((r0 :: R).map PV.str)[0]? = some (.str r0) := rfl
  have hWl : (r0 :: R).length = R.length + 1 := rfl
  have hall : ∀ (B : List (List UInt8)), (B.map PV.str).all (fun y => y.cells.length == 1) = true := fun B => by rw [List.all_map]; exact List.all_eq_true.2 fun _ _ => rfl
  have hall' := hall (r0 :: R)
  simp only [PV.cells] at hall'
  have hsl : 2 ≤ R.length → ((((r0 :: R).map PV.str).drop 1).take (R.length - 1 - 1)) = (R.take (R.length - 2)).map PV.str := fun h => by
    rw [List.map_cons, List.drop_succ_cons, List.drop_zero, ← List.map_take]
    rfl
  generalize hWg : r0 :: R = W at hx0 hWl hall' hsl hWW hW
  by_cases h3 : 2 ≤ R.length
  case neg =>
    rw [if_neg h3] at hE
    have hP : parsQ t = fun o st' => o = .panic (noneV t) ∧ sameLoopsC [] st'.sg = true := by funext o st'; unfold parsQ; rw [hE]
    have hge : ¬ (3 : Int) ≤ ((W.length : Nat) : Int) := by omega
    rw [hP]
    repeat (first | (with_reducible (first | apply wA | apply wB | apply wC | apply wD | apply wE | apply wF | apply wG | apply wH | apply wI | apply wJ | apply wK | apply wL | apply wM | apply wN | apply wO | apply wP | apply wQ rfl | apply wR | apply wS | apply wT | apply wU)) | ((with_reducible (first | apply wV | apply wW | apply wX | (apply wY [] hTT cfNq_ok noM_ok mixed; (focus kernel_rfl)))); (focus (simp only [Tryz.f123, cfNq, c154s, c155, sureR, ht', hWW, hge, ge_iff_le, List.length_map, go_sem]; with_reducible rfl))) | (with_reducible refine wZ hTT cfNq_ok noM_ok ?_) | (with_reducible refine wa ?_; refine And.intro ?_ ?_; (focus kernel_rfl)))
    refine RegQ.stop (v := noneV t) (by simp only [cfNq, c155, sureR, go_sem]; rfl) ?_
    repeat (first | (with_reducible (first | apply wA | apply wB | apply wC | apply wD | apply wE | apply wF | apply wG | apply wH | apply wI | apply wJ | apply wK | apply wL | apply wM | apply wN | apply wO | apply wP | apply wQ rfl | apply wR | apply wS | apply wT | apply wU)) | ((with_reducible (first | apply wV | apply wW | apply wX | (apply wY [] hTT cfNq_ok noM_ok mixed; (focus kernel_rfl)))); (focus (simp only [Tryz.f123, go_sem]; with_reducible rfl))) | (with_reducible refine wZ hTT cfNq_ok noM_ok ?_) | (with_reducible refine wa ?_; refine And.intro ?_ ?_; (focus kernel_rfl)))
    exact ⟨rfl, rfl⟩
  rw [if_pos h3] at hE
  have hge : (3 : Int) ≤ ((W.length : Nat) : Int) := by omega
  have hl0 : (0 : Int) < ((W.length : Nat) : Int) := by omega
  repeat (first | (with_reducible (first | apply wA | ((fail_if_success (refine RunQ.seq (x := .region 3 _ _) ?_)); (apply wB)) | apply wC | apply wD | apply wE | apply wF | apply wG | apply wH | apply wI | apply wJ | apply wK | apply wL | apply wM | apply wN | apply wO | apply wP | apply wQ rfl | apply wR | apply wS | apply wT | apply wU)) | ((with_reducible (first | apply wV | apply wW | apply wX | (apply wY [] hTT cfNq_ok noM_ok mixed; (focus kernel_rfl)))); (focus (simp only [Tryz.f123, cfNq, c154s, c155, sureR, ht', hWW, hge, ge_iff_le, List.length_map, go_sem]; with_reducible rfl))) | ((fail_if_success (with_reducible show RunQ _ (.region 3 _ _) _ _)); (with_reducible refine wZ hTT cfNq_ok noM_ok ?_)) | (with_reducible refine wa ?_; refine And.intro ?_ ?_; (focus kernel_rfl)))
  refine RunQ.keep [3, 2, 0] (by simp only [go_sem]; rfl) ?_
  cases hT : toldE figW 1 r0 with
  | error e =>
    rw [hT] at hE
    have hP : parsQ t = fun o st' => o = .panic (noneV e) ∧ sameLoopsC [] st'.sg = true := by funext o st'; unfold parsQ; rw [hE]
    rw [hP]
    have hR : toldR figW 1 r0 = .pan (noneV e) := by unfold toldR; rw [hT]
    refine RunQ.seq ?_
    refine RunQ.drawP [] (sg0 := [.var [ii 0, .sl .n []] false, .dead, .dead, .dead]) (cf := cfNq) (cf' := cfFk cfNq 156 (.sl .f [ii 0])) 4 (noneV e) [3] hTT cfNq_ok mixed (by kernel_rfl) rfl rfl ?_ (by kernel_rfl) ?_ ?_
    · intro j o hj hne tm sg fid
      match j, hj with
      | 0, hj => cases hj; rfl
      | 1, hj => cases hj; rfl
      | 2, hj => cases hj; rfl
      | 3, hj => cases hj; rfl
      | 4, hj => exact absurd rfl hne
      | 5, hj => cases hj; rfl
      | 6, hj => cases hj; rfl
      | 7, hj => cases hj; rfl
      | 8, hj => cases hj; rfl
      | 9, hj => cases hj; rfl
      | j + 10, hj => simp at hj
    · repeat (apply DrawP.step; (focus (simp only [Tryz.f123, cfFk, cfNq, c157, hl0, hx0, List.length_map, go_sem]; with_reducible rfl)))
      refine DrawP.nil ⟨by kernel_rfl, rfl, rfl, fun st' hn hlk => ?_⟩
      have h17 : getT st'.tm 17 = some (.str r0) := (hlk 17 (List.mem_of_elem_eq_true rfl)).trans rfl
      have h18 : getT st'.tm 18 = some (.str figW) := (hlk 18 (List.mem_of_elem_eq_true rfl)).trans rfl
      obtain ⟨tm, n, sg⟩ := st'
      have h17 : getT tm 17 = some (.str r0) := h17
      have h18 : getT tm 18 = some (.str figW) := h18
      obtain rfl : n = 66 := hn
      have hto : ((1 : Int).toNat) = 1 := rfl
      refine evOp_ok hTT cfNq_ok noY_ok noM_ok ?_
      simp only [cfNq, c156, h17, h18, hR, hr0, hto, go_sem]
    · repeat (first | (with_reducible (first | apply wA | apply wB | apply wC | apply wD | apply wE | apply wF | apply wG | apply wH | apply wI | apply wJ | apply wK | apply wL | apply wM | apply wN | apply wO | apply wP | apply wQ rfl | apply wR | apply wS | apply wT | apply wU)) | ((with_reducible (first | apply wV | apply wW | apply wX | (apply wY [] hTT cfNq_ok noM_ok mixed; (focus kernel_rfl)))); (focus (simp only [Tryz.f123, go_sem]; with_reducible rfl))) | (with_reducible refine wZ hTT cfNq_ok noM_ok ?_) | (with_reducible refine wa ?_; refine And.intro ?_ ?_; (focus kernel_rfl)))
      exact ⟨rfl, rfl⟩
  | ok l =>
  obtain ⟨_, hl1⟩ := toldE_ok hT
  obtain ⟨n0, rfl⟩ : ∃ n0, l = [n0] := by
    match l, hl1 with
    | [a], _ => exact ⟨a, rfl⟩
  rw [hT] at hE
  dsimp only at hE
  rw [show ([n0] : List Int).getD 0 0 = n0 from rfl] at hE
  have hR : toldR figW 1 r0 = .ret (.sl .a [ii n0]) := by unfold toldR; rw [hT]; rfl
  have hto : ((1 : Int).toNat) = 1 := rfl
  have hsl := hsl h3
  have hall2 : ∀ x ∈ R.take (R.length - 2), x.length ≤ 100000 := fun x hx => hWe x (List.mem_cons_of_mem _ (List.mem_of_mem_take hx))
  have hwsl : (R.take (R.length - 2)).length = R.length - 2 := by rw [List.length_take]; omega
  obtain ⟨m, hm⟩ : ∃ m, R.length = m + 2 := ⟨R.length - 2, by omega⟩
  rw [hm] at hsl hwsl hall2 hE hWl
  have em : m + 2 - 1 - 1 = m := by omega
  have em2 : m + 2 - 2 = m := by omega
  rw [em] at hsl
  rw [em2] at hsl hwsl hall2 hE
  generalize R.take m = ws at hsl hwsl hall2 hE
  have e26 : IntKind.i64.wrap (((W.length : Nat) : Int) - 2) = ((m + 1 : Nat) : Int) := (wrap_id (by omega) (by omega)).trans (by omega)
  have f1 : (1 : Int) ≤ ((m + 1 : Nat) : Int) := by omega
  have f2 : ((m + 1 : Nat) : Int) ≤ ((W.length : Nat) : Int) := by omega
  have em3 : m + 1 - 1 = m := by omega
  have hml : m ≤ 800 := by omega
  repeat (first | (with_reducible (first | apply wA | apply wB | apply wC | apply wD | apply wE | apply wF | apply wG | apply wH | apply wI | apply wJ | apply wK | apply wL | apply wM | apply wN | apply wO | apply wP | apply wQ rfl | apply wR | apply wS | apply wT | apply wU)) | ((with_reducible (first | apply wV | apply wW | apply wX | (apply wY [] hTT cfNq_ok noM_ok mixed; (focus kernel_rfl)))); (focus (simp only [Tryz.f123, cfNq, c156, c157, hl0, hx0, hR, hr0, hto, e26, f1, f2, em3, hsl, hall', List.length_map, go_sem]; with_reducible rfl))) | (with_reducible refine wZ hTT cfNq_ok noM_ok ?_) | (with_reducible refine wa ?_; refine And.intro ?_ ?_; (focus kernel_rfl)))
  refine RunQ.keep [29, 28, 27, 4, 2, 0] (by simp only [go_sem]; rfl) ?_
  refine RunQ.nilBox 3 1 44 5 rfl rfl rfl ?_
  have hP : parsQ t = fun o st' => (match (match limbsE ws with
      | .error e => Except.error e
      | .ok l => if textF n0 l = t then .ok (n0, l) else .error t) with
    | .ok f => o.ends = true ∧ sameLoopsC [] st'.sg = true ∧ ∃ v', resC TT st' Tryz.f123.results = some v' ∧ leaveC0 0 v' st'.sg = (figV f, [])
    | .error e => o = .panic (noneV e) ∧ sameLoopsC [] st'.sg = true) := by
    funext o st'
    unfold parsQ
    rw [hE]
  rw [hP]
  clear hP hE hsl hall' hx0 hWW hW hall
  have hn0 := headR_small (r := r0) (s := n0) (by unfold headR; rw [(toldE_ok hT).1])
  refine RunQ.loop (fun i s' => ∃ L : List Lb, (limbsE ws = match limbsE (ws.drop i) with
      | .ok r => .ok (L ++ r)
      | .error e => .error e) ∧ L.length = i ∧ (∀ x ∈ L, ∀ n ∈ limbNs x, n.natAbs < 100) ∧ s' = ⟨[(29, ii i), (28, ii ws.length), (27, .sl .a (ws.map PV.str)), (4, .bp 3 0), (2, .bp 0 0), (0, .str t)], 66, [.var [ii 0, .sl .n []] false, .dead, .dead, .var [ii n0, .ms 4 i] false, .row (decide (i = 0)) 44 5 (L.map encLb) false]⟩) ws.length ⟨[], by rw [List.drop_zero]; cases limbsE ws <;> rfl, rfl, (fun x hx => by cases hx), by simp only [go_sem]⟩ ?_
  rintro i _ hi ⟨L, hm1, hl, hsm, rfl⟩
  by_cases hlt : i < ws.length
  · obtain ⟨x, hx⟩ : ∃ x, ws[i]? = some x := ⟨_, List.getElem?_eq_getElem hlt⟩
    have hx' : (ws.map PV.str)[i]? = some (.str x) := by rw [List.getElem?_map, hx]; rfl
    have hlt' : (i : Int) < ws.length := by omega
    have e4 : IntKind.i64.wrap ((i : Int) + 1) = ((i + 1 : Nat) : Int) := wrap_id (by omega) (by omega)
    have hxl := hall2 x (List.mem_of_getElem? hx)
    have l1 : i + 1 ≤ maxLen := by unfold maxLen; omega
    have l2 : (i + 1) * 40 ≤ 140737488355328 := by omega
    have hd1 : decide (i + 1 = 0) = false := by simp
    have ht5 : ((5 : Int).toNat) = 5 := rfl
    have hz5 : decLb (.agg [PV.int .i64 0, PV.int .i64 0, PV.int .i64 0, PV.int .i64 0, PV.int .i64 0]) = some ⟨0, 0, 0, 0, 0⟩ := rfl
    rw [drop_get hx] at hm1
    cases hT5 : toldE limbW 5 x with
    | error e =>
      have hR5 : toldR limbW 5 x = .pan (noneV e) := by unfold toldR; rw [hT5]
      have hm2 : limbsE ws = .error e := by rw [hm1, limbsE, hT5]
      rw [hm2]
      dsimp only
      repeat (first | (with_reducible (first | apply wA | apply wB | apply wC | apply wD | apply wE | apply wF | apply wG | apply wH | apply wI | apply wJ | apply wK | apply wL | apply wM | apply wN | apply wO | apply wP | apply wQ rfl | apply wR | apply wS | apply wT | apply wU)) | ((with_reducible (first | apply wV | apply wW | apply wX | (apply wY [] hTT cfNq_ok noM_ok mixed; (focus kernel_rfl)))); (focus (simp only [Tryz.f123, cfNq, c156, c158, hlt', hx', hxl, hR5, ht5, hz5, List.length_map, go_sem]; with_reducible rfl))) | (with_reducible refine wZ hTT cfNq_ok noM_ok ?_) | (with_reducible refine wa ?_; refine And.intro ?_ ?_; (focus kernel_rfl)))
      refine RegQ.stop (v := noneV e) (by simp only [cfNq, c156, c158, hxl, hR5, ht5, hz5, go_sem]; rfl) ?_
      repeat (first | (with_reducible (first | apply wA | apply wB | apply wC | apply wD | apply wE | apply wF | apply wG | apply wH | apply wI | apply wJ | apply wK | apply wL | apply wM | apply wN | apply wO | apply wP | apply wQ rfl | apply wR | apply wS | apply wT | apply wU)) | ((with_reducible (first | apply wV | apply wW | apply wX | (apply wY [] hTT cfNq_ok noM_ok mixed; (focus kernel_rfl)))); (focus (simp only [Tryz.f123, go_sem]; with_reducible rfl))) | (with_reducible refine wZ hTT cfNq_ok noM_ok ?_) | (with_reducible refine wa ?_; refine And.intro ?_ ?_; (focus kernel_rfl)))
      exact ⟨rfl, rfl⟩
    | ok l =>
      obtain ⟨hl5a, hl5⟩ := toldE_ok hT5
      obtain ⟨a, b, c, d, e, rfl⟩ : ∃ a b c d e, l = [a, b, c, d, e] := by
        match l, hl5 with
        | [a, b, c, d, e], _ => exact ⟨a, b, c, d, e, rfl⟩
      have hR5 : toldR limbW 5 x = .ret (.sl .a [ii a, ii b, ii c, ii d, ii e]) := by unfold toldR; rw [hT5]; rfl
      have hm2 : limbsE ws = match limbsE (ws.drop (i + 1)) with
          | .ok r => .ok ((L ++ [⟨a, b, c, d, e⟩]) ++ r)
          | .error e => .error e := by
        rw [hm1, limbsE, hT5]
        dsimp only
        cases limbsE (ws.drop (i + 1)) with
        | ok r => simp
        | error e => rfl
      have hsm2 := (numsW_small hl5a).2
      repeat (first | (with_reducible (first | apply wA | apply wB | apply wC | apply wD | apply wE | apply wF | apply wG | apply wH | apply wI | apply wJ | apply wK | apply wL | apply wM | apply wN | apply wO | apply wP | apply wQ rfl | apply wR | apply wS | apply wT | apply wU)) | ((with_reducible (first | apply wV | apply wW | apply wX | (apply wY [] hTT cfNq_ok noM_ok mixed; (focus kernel_rfl)))); (focus (simp only [Tryz.f123, cfNq, c156, c158, hlt', hx', hxl, hR5, ht5, hz5, e4, hl, l1, l2, List.length_map, go_sem]; with_reducible rfl))) | (with_reducible refine wZ hTT cfNq_ok noM_ok ?_) | (with_reducible refine wa ?_; refine And.intro ?_ ?_; (focus kernel_rfl)))
      refine roundQ.t 5 [29, 28, 27, 4, 2, 0] hlt (by simp only [ltB_strs, ltB_lbs, ltBL_append, go_sem]) ⟨L ++ [⟨a, b, c, d, e⟩], hm2, by simp [hl], (fun y hy n hn => ?_), by rw [List.map_append]; simp only [hd1, go_sem]; rfl⟩
      rcases List.mem_append.1 hy with hy | hy
      · exact hsm y hy n hn
      · rw [List.mem_singleton.1 hy] at hn
        exact hsm2 n hn
  · have hlt' : ¬ (i : Int) < ws.length := by omega
    obtain rfl : i = ws.length := by omega
    rw [List.drop_length] at hm1
    have hm1 : limbsE ws = .ok L := by rw [hm1]; simp [limbsE]
    rw [hm1, ← hl]
    dsimp only
    have hsF := small_of hn0 hsm
    have hLl : L.length ≤ 900 := by omega
    have hd : decFig (.agg [ii n0, .sl (if decide (L.length = 0) = true then .n else .a) (L.map encLb)]) = some (n0, L) := decFig_enc _ _ _ (zOk_n' fun e => by
      split at e
      · rename_i h
        exact List.length_eq_zero_iff.1 (of_decide_eq_true h)
      · cases e)
    rw [← hl] at hlt'
    repeat (first | (with_reducible (first | apply wA | ((fail_if_success (refine RunQ.seq (x := .region 10 _ _) ?_)); (apply wB)) | apply wC | apply wD | apply wE | apply wF | apply wG | apply wH | apply wI | apply wJ | apply wK | apply wL | apply wM | apply wN | apply wO | apply wP | apply wQ rfl | apply wR | apply wS | apply wT | apply wU)) | ((with_reducible (first | apply wV | apply wW | apply wX | (apply wY [] hTT cfNq_ok noM_ok mixed; (focus kernel_rfl)))); (focus (simp only [Tryz.f123, hlt', List.length_map, go_sem]; with_reducible rfl))) | ((fail_if_success (with_reducible show RunQ _ (.region 10 _ _) _ _)); (with_reducible refine wZ hTT cfNq_ok noM_ok ?_)) | (with_reducible refine wa ?_; refine And.intro ?_ ?_; (focus kernel_rfl)))
    refine RunQ.seq ?_
    refine RunQ.regG hTT cfNq_ok noM_ok ?_
    apply RegG.step
    · simp only [Tryz.f123, go_sem]; with_reducible rfl
    refine RegG.ghost (Ghost.freezeAgr 59 4 rfl rfl (by rw [List.length_map]) (closedL_lbs L) rfl rfl) ?_
    by_cases hte : textF n0 L = t
    · rw [if_pos hte]
      dsimp only
      have hte' : (textF n0 L == t) = true := by rw [hte]; exact beq_self_eq_true _
      generalize hzz : (if decide (L.length = 0) = true then Z.n else Z.a) = zz at hd ⊢
      iterate 5 (apply RegG.step; (focus (simp only [Tryz.f123, cfNq, c121, c155, sureR, hd, hsF, hLl, hte', go_sem]; with_reducible rfl)))
      refine RegG.nil ?_
      refine thenQ.n ?_
      repeat (first | (with_reducible (first | apply wA | apply wB | apply wC | apply wD | apply wE | apply wF | apply wG | apply wH | apply wI | apply wJ | apply wK | apply wL | apply wM | apply wN | apply wO | apply wP | apply wQ rfl | apply wR | apply wS | apply wT | apply wU)) | ((with_reducible (first | apply wV | apply wW | apply wX | (apply wY [] hTT cfNq_ok noM_ok mixed; (focus kernel_rfl)))); (focus (simp only [Tryz.f123, go_sem]; with_reducible rfl))) | (with_reducible refine wZ hTT cfNq_ok noM_ok ?_) | (with_reducible refine wa ?_; refine And.intro ?_ ?_; (focus kernel_rfl)))
      refine ⟨rfl, rfl, _, rfl, ?_⟩
      unfold figV
      exact leave_agr (id := 4) (z := decide (L.length = 0)) (frz := true) rfl (closedL_lbs L) (by rw [List.length_map]) rfl
    · rw [if_neg hte]
      dsimp only
      have hte' : (textF n0 L == t) = false := beq_eq_false_iff_ne.2 hte
      generalize hzz : (if decide (L.length = 0) = true then Z.n else Z.a) = zz at hd ⊢
      iterate 4 (apply RegG.step; (focus (simp only [Tryz.f123, cfNq, c121, c155, sureR, hd, hsF, hLl, hte', go_sem]; with_reducible rfl)))
      refine RegG.stop (v := noneV t) (by simp only [cfNq, c155, sureR, go_sem]; rfl) ?_
      repeat (first | (with_reducible (first | apply wA | apply wB | apply wC | apply wD | apply wE | apply wF | apply wG | apply wH | apply wI | apply wJ | apply wK | apply wL | apply wM | apply wN | apply wO | apply wP | apply wQ rfl | apply wR | apply wS | apply wT | apply wU)) | ((with_reducible (first | apply wV | apply wW | apply wX | (apply wY [] hTT cfNq_ok noM_ok mixed; (focus kernel_rfl)))); (focus (simp only [Tryz.f123, go_sem]; with_reducible rfl))) | (with_reducible refine wZ hTT cfNq_ok noM_ok ?_) | (with_reducible refine wa ?_; refine And.intro ?_ ?_; (focus kernel_rfl)))
      exact ⟨rfl, rfl⟩
theorem parsed_123 (t : List UInt8) (ht : t.length ≤ 800) : CallOk Tryz.prog 123 [.str t] [] (parsR t) [] := by
  have h := parsed_run t ht _ rfl
  unfold parsR
  cases hx : parsedE t with
  | error e =>
    refine CallOk.ofPan Tryz.func123 rfl rfl ?_ (lt_of_closed (noneV e) rfl)
    have hQ : parsQ t = fun o st' => o = .panic (noneV e) ∧ sameLoopsC [] st'.sg = true := by funext o st'; unfold parsQ; rw [hx]
    rw [hQ] at h
    exact h
  | ok f =>
    refine CallOk.ofF hTT Tryz.func123 rfl rfl ?_
    have hQ : parsQ t = fun o st' => o.ends = true ∧ sameLoopsC [] st'.sg = true ∧ ∃ v', resC TT st' Tryz.f123.results = some v' ∧ leaveC0 0 v' st'.sg = (figV f, []) := by funext o st'; unfold parsQ; rw [hx]
    rw [hQ] at h
    exact h
end Go.Pv
namespace Go.Pv
open Go Go.RowKit Go.Proofs
set_option maxRecDepth 200000
set_option maxHeartbeats 8000000
theorem run_ofN {P : Program} {c : Code} {st s0 : St} {o0 : Out} (h : RunQ P c st (fun o s => o = o0 ∧ s = s0)) : Run P c st o0 s0 := by
  obtain ⟨o, s, hr, rfl, rfl⟩ := h
  exact hr
theorem try_none {g : FuncId} {fa cap : List PV} {sg sg2 : List Box} {w : List UInt8} {c : PV} (he : Enters Tryz.prog g) (hc : CallOk Tryz.prog g (fa ++ ([] ++ cap)) (sg ++ [.var [ii 0] false]) (.pan (noneV w)) sg2) (hsl : SameLoops (sg ++ [.var [ii 0] false]) sg2)
    (hb : sg2[sg.length]? = some (.var [c] false)) : CallOk Tryz.prog 93 [.fn (.func g) fa cap] sg (.ret (ii 4)) ((sg2 ++ [Box.var [.str w] false]).set sg.length (.var [ii 4] false)) := by
  unfold noneV at hc
  have hsl0 : SameLoops sg sg2 := by
    refine ⟨fun id lr h => hsl.1 id lr (by rw [List.getElem?_append_left (List.getElem?_eq_some_iff.1 h).1]; exact h), fun id lr h => ?_⟩
    obtain ⟨lr', h'⟩ := hsl.2 id lr h
    by_cases hid : id < sg.length
    · rw [List.getElem?_append_left hid] at h'; exact ⟨lr', h'⟩
    · rw [List.getElem?_append_right (by omega)] at h'
      have := (List.getElem?_eq_some_iff.1 h').1
      simp at this
      have e : id - sg.length = 0 := by omega
      rw [e] at h'
      cases h'
  have hlt : sg.length < sg2.length := (List.getElem?_eq_some_iff.1 hb).1
  have hb2 : (sg2 ++ [Box.var [.str w] false])[sg.length]? = some (.var [c] false) := by rw [List.getElem?_append_left hlt]; exact hb
  have hb3 : ((sg2 ++ [Box.var [.str w] false]).set sg.length (.var [ii 4] false))[sg.length]? = some (.var [ii 4] false) := List.getElem?_set_self (by simp; omega)
  have hc1 : PRun Tryz.prog (.region 0 #[{ dst := some 2, op := .alloc 31, type := 0, pos := "joint.go:198", after := #[], guard := none }] false) ⟨argT 0 [.fn (.func g) fa cap], 6, sg⟩ .normal ⟨[(2, .bp sg.length 0), (0, .fn (.func g) fa cap)], 6, sg ++ [.var [ii 0] false]⟩ :=
    PRun.regionL hTT (by simp only [plainO, set_last, go_sem])
  refine CallOk.deferring (st1 := ⟨[(2, .bp sg.length 0), (0, .fn (.func g) fa cap)], 6, sg ++ [.var [ii 0] false]⟩) (st2 := ⟨[(4, .fn (.func g) fa cap), (3, .fn (.func 139) [] [.bp sg.length 0]), (2, .bp sg.length 0), (0, .fn (.func g) fa cap)], 6, sg2⟩) (m := .pan (.iface 194 (.agg [.str w])))
    (st3 := ⟨[(3, .bp sg2.length 0), (13, .agg [.str w]), (12, .bool true), (11, .tuple [.agg [.str w], .bool true]), (10, .agg [ii 0]), (9, .bool false), (8, .tuple [.agg [ii 0], .bool false]), (7, .bool false), (5, .iface 194 (.agg [.str w])), (0, .bp sg.length 0)], 14, (sg2 ++ [Box.var [.str w] false]).set sg.length (.var [ii 4] false)⟩) (idv := sg.length) hTT Tryz.func93 rfl Tryz.func139 rfl rfl (by decide) (ent Tryz.func139 rfl) hc1 rfl (of_decide_eq_true rfl) ?_ ?_ ?_ ?_ ?_
  · refine run_ofN ?_
    repeat (first | (with_reducible (first | apply wA | apply wB | apply wC | apply wD | apply wE | apply wF | apply wG | apply wH | apply wI | apply wJ | apply wK | apply wL | apply wM | apply wN | apply wO | apply wP | apply wQ rfl | apply wR | apply wS | apply wT | apply wU)) | ((with_reducible (first | apply wV | apply wW | apply wX | (apply wY [] hTT (cfOne_ok cf0_ok he hc hsl) noM_ok mixed; (focus kernel_rfl)))); (focus (simp only [Tryz.f93, cfOne, go_sem]; with_reducible rfl))) | (with_reducible refine wZ hTT (cfOne_ok cf0_ok he hc hsl) noM_ok ?_) | (with_reducible refine wa ?_; refine And.intro ?_ ?_; (focus kernel_rfl)))
    refine RegQ.stop (v := .iface 194 (.agg [.str w])) (st1 := ⟨[(4, .fn (.func g) fa cap), (3, .fn (.func 139) [] [.bp sg.length 0]), (2, .bp sg.length 0), (0, .fn (.func g) fa cap)], 6, sg2⟩) (by simp only [cfOne, go_sem]) ?_
    repeat (first | (with_reducible (first | apply wA | apply wB | apply wC | apply wD | apply wE | apply wF | apply wG | apply wH | apply wI | apply wJ | apply wK | apply wL | apply wM | apply wN | apply wO | apply wP | apply wQ rfl | apply wR | apply wS | apply wT | apply wU)) | ((with_reducible (first | apply wV | apply wW | apply wX | (apply wY [] hTT cf0_ok noM_ok mixed; (focus kernel_rfl)))); (focus (simp only [Tryz.f93, go_sem]; with_reducible rfl))) | (with_reducible refine wZ hTT cf0_ok noM_ok ?_) | (with_reducible refine wa ?_; refine And.intro ?_ ?_; (focus kernel_rfl)))
    exact ⟨rfl, rfl⟩
  · refine PRun.block (out := .normal) (PRun.seq (st1 := ⟨[(7, .bool false), (5, .iface 194 (.agg [.str w])), (0, .bp sg.length 0)], 14, sg2⟩) (PRun.regionL hTT rfl) (PRun.cond (b := false) rfl
      (PRun.seq (st1 := ⟨[(10, .agg [ii 0]), (9, .bool false), (8, .tuple [.agg [ii 0], .bool false]), (7, .bool false), (5, .iface 194 (.agg [.str w])), (0, .bp sg.length 0)], 14, sg2⟩) (PRun.regionL hTT rfl) (PRun.cond (b := false) rfl
        (PRun.seq (st1 := ⟨[(13, .agg [.str w]), (12, .bool true), (11, .tuple [.agg [.str w], .bool true]), (10, .agg [ii 0]), (9, .bool false), (8, .tuple [.agg [ii 0], .bool false]), (7, .bool false), (5, .iface 194 (.agg [.str w])), (0, .bp sg.length 0)], 14, sg2⟩) (PRun.regionL hTT rfl) (PRun.cond (b := true) rfl
          (PRun.seq (st1 := ⟨[(3, .bp sg2.length 0), (13, .agg [.str w]), (12, .bool true), (11, .tuple [.agg [.str w], .bool true]), (10, .agg [ii 0]), (9, .bool false), (8, .tuple [.agg [ii 0], .bool false]), (7, .bool false), (5, .iface 194 (.agg [.str w])), (0, .bp sg.length 0)], 14, sg2 ++ [.var [.str w] false]⟩) (PRun.regionL hTT (by simp only [plainO, set_last, get_last, go_sem])) (PRun.regionL hTT (by simp only [plainO, hb2, go_sem])))))))))
  · simp only [Tryz.f93, hb3, go_sem]
  · exact hsl0
  · show sg.length < (sg ++ [_]).length
    simp
def zeroF : PV := .agg [ii 0, .sl .n []]
def readP (t : List UInt8) : PV := if 200 < t.length then .tuple [zeroF, ii 3] else match parsedE t with
  | .error _ => .tuple [zeroF, ii 4]
  | .ok f => if figB f.1 f.2 = true then .tuple [figV f, ii 0] else .tuple [zeroF, ii 2]
def cfNr : CallF := cfAdd cf0 85 c85
theorem cfNr_ok : CallFOk Tryz.prog cfNr := cfAdd_ok cf0_ok c85_ok
theorem Read_76 (t : List UInt8) (ht : t.length ≤ 100000) : CallOk Tryz.prog 76 [.str t] [] (.ret (readP t)) [] := by
  refine CallOk.ofF hTT Tryz.func76 rfl rfl ?_
  unfold readP
  by_cases hl : 200 < t.length
  · rw [if_pos hl]
    have hl' : (200 : Int) < ((t.length : Nat) : Int) := by omega
    repeat (first | (with_reducible (first | apply wA | apply wB | apply wC | apply wD | apply wE | apply wF | apply wG | apply wH | apply wI | apply wJ | apply wK | apply wL | apply wM | apply wN | apply wO | apply wP | apply wQ rfl | apply wR | apply wS | apply wT | apply wU)) | ((with_reducible (first | apply wV | apply wW | apply wX | (apply wY [] hTT cfNr_ok noM_ok mixed; (focus kernel_rfl)))); (focus (simp only [Tryz.f76, hl', gt_iff_lt, go_sem]; with_reducible rfl))) | (with_reducible refine wZ hTT cfNr_ok noM_ok ?_) | (with_reducible refine wa ?_; refine And.intro ?_ ?_; (focus kernel_rfl)))
    exact ⟨rfl, rfl, _, rfl, leave_closed rfl⟩
  rw [if_neg hl]
  have hl' : ¬ (200 : Int) < ((t.length : Nat) : Int) := by omega
  have hp := parsed_123 t (by omega)
  unfold parsR at hp
  have hbl : ∀ a b : PV, a.closed = true → b.closed = true → ∀ x ∈ [Box.var [.str t] false, .var [ii 0, .sl .n []] false, .var [a, b] false], x.Lt 3 := fun a b ha hb x hx => by
    simp only [List.mem_cons, List.not_mem_nil, or_false] at hx
    rcases hx with rfl | rfl | rfl
    · exact fun c hc => (lt_of_closedL _ (show closedL [PV.str t] = true from rfl) c hc).mono (Nat.zero_le _)
    · exact fun c hc => (lt_of_closedL _ (show closedL [ii 0, .sl .n []] = true from rfl) c hc).mono (Nat.zero_le _)
    · exact fun c hc => by
        simp only [List.mem_cons, List.not_mem_nil, or_false] at hc
        rcases hc with rfl | rfl
        · exact (lt_of_closed _ ha).mono (Nat.zero_le _)
        · exact (lt_of_closed _ hb).mono (Nat.zero_le _)
  have hla : ∀ x ∈ [PV.str t], Pv.Lt 0 x := fun x hx => by
    rw [List.mem_singleton.1 hx]
    exact lt_of_closed _ rfl
  cases hE : parsedE t with
  | error e =>
    rw [hE] at hp
    have hp : CallOk Tryz.prog 123 [.str t] [] (.pan (noneV e)) [] := hp
    have h122 : CallOk Tryz.prog 122 ([] ++ ([] ++ [.bp 0 0, .bp 2 0])) ([Box.var [.str t] false, .var [ii 0, .sl .n []] false, .var [ii 0, .sl .n []] false] ++ [.var [ii 0] false]) (.pan (noneV e)) ([Box.var [.str t] false, .var [ii 0, .sl .n []] false, .var [ii 0, .sl .n []] false] ++ [.var [ii 0] false]) := by
      have hfr := hp.framePan hla ([Box.var [.str t] false, .var [ii 0, .sl .n []] false, .var [ii 0, .sl .n []] false] ++ [.var [ii 0] false])
      refine CallOk.ofPanB Tryz.func122 rfl rfl ?_ rfl (fun b hb => ?_) (lt_of_closed (noneV e) rfl |>.mono (Nat.zero_le _))
      · repeat (first | (with_reducible (first | apply wA | apply wB | apply wC | apply wD | apply wE | apply wF | apply wG | apply wH | apply wI | apply wJ | apply wK | apply wL | apply wM | apply wN | apply wO | apply wP | apply wQ rfl | apply wR | apply wS | apply wT | apply wU)) | ((with_reducible (first | apply wV | apply wW | apply wX | (apply wY [] hTT (cfOne_ok cf0_ok (ent Tryz.func123 rfl) hfr (SameLoops.refl _)) noM_ok mixed; (focus kernel_rfl)))); (focus (simp only [Tryz.f122, cfOne, go_sem]; with_reducible rfl))) | (with_reducible refine wZ hTT (cfOne_ok cf0_ok (ent Tryz.func123 rfl) hfr (SameLoops.refl _)) noM_ok ?_) | (with_reducible refine wa ?_; refine And.intro ?_ ?_; (focus kernel_rfl)))
        refine RegQ.stop (v := noneV e) (by simp only [cfOne, go_sem]; rfl) ?_
        repeat (first | (with_reducible (first | apply wA | apply wB | apply wC | apply wD | apply wE | apply wF | apply wG | apply wH | apply wI | apply wJ | apply wK | apply wL | apply wM | apply wN | apply wO | apply wP | apply wQ rfl | apply wR | apply wS | apply wT | apply wU)) | ((with_reducible (first | apply wV | apply wW | apply wX | (apply wY [] hTT cf0_ok noM_ok mixed; (focus kernel_rfl)))); (focus (simp only [Tryz.f122, go_sem]; with_reducible rfl))) | (with_reducible refine wZ hTT cf0_ok noM_ok ?_) | (with_reducible refine wa ?_; refine And.intro ?_ ?_; (focus kernel_rfl)))
        exact ⟨rfl, SameLoops.refl _, [], by simp⟩
      · rcases List.mem_append.1 hb with hb | hb
        · exact (hbl _ _ rfl rfl b hb).mono (by simp)
        · simp only [List.mem_cons, List.not_mem_nil, or_false] at hb
          subst hb
          exact fun c hc => (lt_of_closedL _ (show closedL [ii 0] = true from rfl) c hc).mono (Nat.zero_le _)
    have h93 : CallOk Tryz.prog 93 [.fn (.func 122) [] [.bp 0 0, .bp 2 0]] [Box.var [.str t] false, .var [ii 0, .sl .n []] false, .var [ii 0, .sl .n []] false] (.ret (ii 4)) [Box.var [.str t] false, .var [ii 0, .sl .n []] false, .var [ii 0, .sl .n []] false] := (try_none (ent Tryz.func122 rfl) h122 (SameLoops.refl _) rfl).cut (hbl _ _ rfl rfl) .int
    have b40 : ((4 : Int) != 0) = true := rfl
    repeat (first | (with_reducible (first | apply wA | apply wB | apply wC | apply wD | apply wE | apply wF | apply wG | apply wH | apply wI | apply wJ | apply wK | apply wL | apply wM | apply wN | apply wO | apply wP | apply wQ rfl | apply wR | apply wS | apply wT | apply wU)) | ((with_reducible (first | apply wV | apply wW | apply wX | (apply wY [] hTT (cfOne_ok cfNr_ok (ent Tryz.func93 rfl) h93 (SameLoops.refl _)) noM_ok mixed; (focus kernel_rfl)))); (focus (simp only [Tryz.f76, b40, cfOne, hl', notYield, gt_iff_lt, go_sem]; with_reducible rfl))) | (with_reducible refine wZ hTT (cfOne_ok cfNr_ok (ent Tryz.func93 rfl) h93 (SameLoops.refl _)) noM_ok ?_) | (with_reducible refine wa ?_; refine And.intro ?_ ?_; (focus kernel_rfl)))
    exact ⟨rfl, rfl, _, rfl, leave_closed rfl⟩
  | ok f =>
    obtain ⟨s, ls⟩ := f
    rw [hE] at hp
    have hp : CallOk Tryz.prog 123 [.str t] [] (.ret (.agg [ii s, .sl (if decide (ls.length = 0) = true then .n else .a) (ls.map encLb)])) [] := hp
    have hz : (if decide (ls.length = 0) = true then Z.n else Z.a) = Z.n → ls = [] := fun e => by
      split at e
      · rename_i h
        exact List.length_eq_zero_iff.1 (of_decide_eq_true h)
      · cases e
    have hd := decFig_enc s _ ls (zOk_n' hz)
    unfold figV
    dsimp only
    generalize (if decide (ls.length = 0) = true then Z.n else Z.a) = z at hp hd ⊢
    have hcf : (PV.sl z (ls.map encLb)).closed = true := closedL_lbs ls
    have hsl1 : SameLoops ([Box.var [.str t] false, .var [ii 0, .sl .n []] false, .var [ii 0, .sl .n []] false] ++ [.var [ii 0] false]) ([Box.var [.str t] false, .var [ii 0, .sl .n []] false, .var [ii s, .sl z (ls.map encLb)] false] ++ [.var [ii 0] false]) := sameLoops_of _ _ rfl
    have h122 : CallOk Tryz.prog 122 ([] ++ ([] ++ [.bp 0 0, .bp 2 0])) ([Box.var [.str t] false, .var [ii 0, .sl .n []] false, .var [ii 0, .sl .n []] false] ++ [.var [ii 0] false]) (.ret (.tuple [])) ([Box.var [.str t] false, .var [ii 0, .sl .n []] false, .var [ii s, .sl z (ls.map encLb)] false] ++ [.var [ii 0] false]) := by
      have hfr := hp.frame hla ([Box.var [.str t] false, .var [ii 0, .sl .n []] false, .var [ii 0, .sl .n []] false] ++ [.var [ii 0] false])
      refine CallOk.ofB hTT Tryz.func122 rfl rfl ?_ rfl (fun b hb => ?_) (.tuple (fun c hc => by cases hc))
      · repeat (first | (with_reducible (first | apply wA | apply wB | apply wC | apply wD | apply wE | apply wF | apply wG | apply wH | apply wI | apply wJ | apply wK | apply wL | apply wM | apply wN | apply wO | apply wP | apply wQ rfl | apply wR | apply wS | apply wT | apply wU)) | ((with_reducible (first | apply wV | apply wW | apply wX | (apply wY [] hTT (cfOne_ok cf0_ok (ent Tryz.func123 rfl) hfr (SameLoops.refl _)) noM_ok mixed; (focus kernel_rfl)))); (focus (simp only [Tryz.f122, cfOne, go_sem]; with_reducible rfl))) | (with_reducible refine wZ hTT (cfOne_ok cf0_ok (ent Tryz.func123 rfl) hfr (SameLoops.refl _)) noM_ok ?_) | (with_reducible refine wa ?_; refine And.intro ?_ ?_; (focus kernel_rfl)))
        exact ⟨rfl, hsl1, rfl, [], by simp⟩
      · rcases List.mem_append.1 hb with hb | hb
        · exact (hbl _ _ rfl hcf b hb).mono (by simp)
        · simp only [List.mem_cons, List.not_mem_nil, or_false] at hb
          subst hb
          exact fun c hc => (lt_of_closedL _ (show closedL [ii 0] = true from rfl) c hc).mono (Nat.zero_le _)
    have h93 : CallOk Tryz.prog 93 [.fn (.func 122) [] [.bp 0 0, .bp 2 0]] [Box.var [.str t] false, .var [ii 0, .sl .n []] false, .var [ii 0, .sl .n []] false] (.ret (ii 0)) [Box.var [.str t] false, .var [ii 0, .sl .n []] false, .var [ii s, .sl z (ls.map encLb)] false] := (try_core (ent Tryz.func122 rfl) h122 hsl1 rfl).cut (hbl _ _ rfl hcf) .int
    have hsl2 : SameLoops [Box.var [.str t] false, .var [ii 0, .sl .n []] false, .var [ii 0, .sl .n []] false] [Box.var [.str t] false, .var [ii 0, .sl .n []] false, .var [ii s, .sl z (ls.map encLb)] false] := sameLoops_of _ _ rfl
    have b00 : ((0 : Int) != 0) = false := rfl
    cases hf : figB s ls
    · rw [if_neg (by simp)]
      repeat (first | (with_reducible (first | apply wA | apply wB | apply wC | apply wD | apply wE | apply wF | apply wG | apply wH | apply wI | apply wJ | apply wK | apply wL | apply wM | apply wN | apply wO | apply wP | apply wQ rfl | apply wR | apply wS | apply wT | apply wU)) | ((with_reducible (first | apply wV | apply wW | apply wX | (apply wY [] hTT (cfOne_ok cfNr_ok (ent Tryz.func93 rfl) h93 hsl2) noM_ok mixed; (focus kernel_rfl)))); (focus (simp only [Tryz.f76, b00, cfOne, cfNr, c85, hd, hf, hl', notYield, gt_iff_lt, go_sem]; with_reducible rfl))) | (with_reducible refine wZ hTT (cfOne_ok cfNr_ok (ent Tryz.func93 rfl) h93 hsl2) noM_ok ?_) | (with_reducible refine wa ?_; refine And.intro ?_ ?_; (focus kernel_rfl)))
      exact ⟨rfl, rfl, _, rfl, leave_closed rfl⟩
    · rw [if_pos rfl]
      repeat (first | (with_reducible (first | apply wA | apply wB | apply wC | apply wD | apply wE | apply wF | apply wG | apply wH | apply wI | apply wJ | apply wK | apply wL | apply wM | apply wN | apply wO | apply wP | apply wQ rfl | apply wR | apply wS | apply wT | apply wU)) | ((with_reducible (first | apply wV | apply wW | apply wX | (apply wY [] hTT (cfOne_ok cfNr_ok (ent Tryz.func93 rfl) h93 hsl2) noM_ok mixed; (focus kernel_rfl)))); (focus (simp only [Tryz.f76, b00, cfOne, cfNr, c85, hd, hf, hl', notYield, gt_iff_lt, go_sem]; with_reducible rfl))) | (with_reducible refine wZ hTT (cfOne_ok cfNr_ok (ent Tryz.func93 rfl) h93 hsl2) noM_ok ?_) | (with_reducible refine wa ?_; refine And.intro ?_ ?_; (focus kernel_rfl)))
      exact ⟨rfl, rfl, _, rfl, leave_closed (show closedL [.agg [ii s, .sl z (ls.map encLb)], ii 0] = true from by simp [closedL, PV.closed, closedL_lbs])⟩
def c76 : List PV → List Box → Option (PRes × List Box)
  | [.str t], sg => if t.length ≤ 100000 then some (.ret (readP t), sg) else none
  | _, _ => none
theorem c76_ok : ConOk Tryz.prog 76 c76 := ConOk.of0 (ent Tryz.func76 rfl) fun args sg r sg' h => by
  unfold c76 at h
  split at h <;> try (cases h; done)
  split at h <;> cases h
  rename_i hc
  exact ⟨_, rfl, rfl, rfl, Read_76 _ hc⟩
end Go.Pv
