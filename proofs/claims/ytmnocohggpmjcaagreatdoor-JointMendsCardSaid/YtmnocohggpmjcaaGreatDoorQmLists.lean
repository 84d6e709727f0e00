/- Contracts: Clone of a list of numbers. -/
import Derived.Test.YtmnocohggpmjcaaGreatDoorQgEnds
import Derived.Test.YtmnocohggpmjcaaGreatDoorQlIter
set_option linter.all false
namespace Go.Pv
open Go Go.RowKit Go.Proofs
set_option maxRecDepth 10000
set_option maxHeartbeats 4000000
/-- A row that a call leaves, no boxes around. -/
theorem leaveC_row {id : Nat} {e : TypeId} {k : Nat} {es : List PV} {sg : List Box} (h : sg[id]? = some (.row false e k es false)) (hc : closedL es = true) {m : Nat} : leaveC 0 (.ms id m) sg = (.ms 0 m, [.row false e k es false]) := by
  unfold leaveC
  have h1 : (PV.ms id m).ltB 0 = false := rfl
  rw [if_neg (by rw [h1]; simp)]
  simp only [h]
  have hq : frzL (frzX (some 0) 6) sg (flat es) = (flat es, sg) := frzL_closed (n := 5) (flat es) sg (closedL_flat es hc)
  simp only [hq, regroup_self]
  have ho : openRow sg id = true := by unfold openRow; rw [h]
  rw [if_pos ⟨by simp, ltBL_of_closed 0 es hc, by simp, ho⟩]
  simp
theorem closedL_is (l : List Int) : closedL (l.map ii) = true := closedL_map (fun _ => rfl) l
theorem all_mi (l : List Int) (p : PV → Bool) : (l.map ii).all p = l.all fun x => p (ii x) := by rw [List.all_map]; rfl
theorem all_t {α : Type} (l : List α) : (l.all fun _ => true) = true := by simp
theorem Clone_117n : CallOk Tryz.prog 117 [.sl .n []] [] (.ret (.sl .n [])) [] :=
  (ev_call hTT noM_ok mixed named prim0_ok (k := 60) (by kernel_rfl)).2.1
theorem Clone_117 (l : List Int) (hl : l ≠ []) (hs : l.length ≤ 1000) : CallOk Tryz.prog 117 [.sl .a (l.map ii)] [] (.ret (.ms 0 l.length)) [.row false 3 1 (l.map ii) false] := by
  refine CallOk.ofS hTT Tryz.func117 rfl rfl ?_
  have he : (l.map ii).isEmpty = false := by cases l with
    | nil => exact absurd rfl hl
    | cons a l => rfl
  have r1 : l.length * 8 ≤ 140737488355328 := by omega
  have r2 : l.length ≤ maxLen := by unfold maxLen; omega
  have ez : (Z.a == Z.n) = false := rfl
  repeat (first | (with_reducible (first | apply wA | apply wB | apply wC | apply wD | apply wE | apply wF | apply wG | apply wH | apply wI | apply wJ | apply wK | apply wL | apply wM | apply wN | apply wO | apply wP | apply wQ rfl | apply wR | apply wS | apply wT | apply wU)) | ((with_reducible (first | apply wV | apply wW | apply wX | (apply wY [] hTT cf0_ok noM_ok mixed; (focus kernel_rfl)))); (focus (simp only [Tryz.f117, ez, he, r1, r2, all_mi, all_t, go_sem]; with_reducible rfl))) | (with_reducible refine wZ hTT cf0_ok noM_ok ?_) | (with_reducible refine wa ?_; refine And.intro ?_ ?_; (focus kernel_rfl)))
  refine ⟨rfl, rfl, _, rfl, ?_⟩
  exact leaveC_row rfl (closedL_is l)
end Go.Pv
namespace Go.Pv
open Go Go.RowKit Go.Proofs
set_option maxRecDepth 10000
set_option maxHeartbeats 4000000
attribute [go_sem] stepOY
def spE (s : Int × Int) : PV := .agg [ii s.1, ii s.2]
def pvL (l : List Int) : PV := .sl (if l.isEmpty = true then .n else .a) (l.map ii)
def rng (lo hi : Int) : List Int := (List.range (hi + 1 - lo).toNat).map fun (k : Nat) => lo + (k : Int)
def exts : List (Int × Int) → List Int → List (List Int)
  | [], now => [now]
  | s :: r, now => (rng s.1 s.2).flatMap fun n => exts r (now ++ [n])
theorem foldR_same {P : Program} {id : Nat} {own : List Box} : ∀ {L : List (List PV)} {low low' : List Box} {b : Bool}, FoldR (YR P id) L low b low' → OwnOk low.length own → SameLoops (low ++ own) (low' ++ own)
  | [], _, _, _, h, ho => by cases h; exact SameLoops.refl _
  | e :: L, _, _, _, h, ho => by
    cases h with
    | stop h => exact (h.2.2 own ho).2
    | next h k => exact (h.2.2 own ho).2.trans (foldR_same k (by rw [h.1]; exact ho))
def c117 : List PV → List Box → Option (PRes × List Box)
  | [.sl .n []], sg => some (.ret (.sl .n []), sg)
  | [.sl .a es], [] => match decL decI es with
    | some l => if l ≠ [] ∧ l.length ≤ 1000 then some (.ret (.ms 0 l.length), [.row false 3 1 (l.map ii) false]) else none
    | none => none
  | _, _ => none
theorem c117_ok : ConOk Tryz.prog 117 c117 := fun args sg r sg' h => by
  unfold c117 at h
  split at h
  · cases h
    exact ⟨ent Tryz.func117 rfl, Clone_117n.frame (fun x hx => by simp at hx; subst hx; exact .sl (fun e he => by cases he)) _, SameLoops.refl _⟩
  · split at h <;> try (cases h; done)
    split at h <;> cases h
    rename_i hl hc
    obtain rfl := decL_inv decI_inv hl
    exact ⟨ent Tryz.func117 rfl, Clone_117 _ hc.1 hc.2, sameLoops_of _ _ rfl⟩
  · cases h
def cfLb : CallF := cfAdd cf0 117 c117
theorem cfLb_ok : CallFOk Tryz.prog cfLb := cfAdd_ok cf0_ok c117_ok
theorem own_lt {low own : List Box} (h : OwnOk 0 low) (k : OwnOk low.length own) : ∀ b ∈ low ++ own, b.Lt (low ++ own).length := fun b hb => by
  rw [List.length_append]
  rcases List.mem_append.1 hb with hb | hb
  · exact (h b hb).mono (by omega)
  · exact k b hb
theorem search_base (id : Nat) (zs zn : Z) (spans : List (Int × Int)) (now : List Int) (low own low' : List Box) (b : Bool) (a a' : Nat) (hn : now.length = spans.length) (h0 : OwnOk 0 low) (ho : OwnOk low.length own)
    (hY : (low ++ own)[a]? = some (.var [.yl id] false)) (h : YR Tryz.prog id [.sl zn (now.map ii)] low b low') :
    CallOk Tryz.prog 167 [.sl zn (now.map ii), .ip [.sl zs (spans.map spE)], .bp a 0, .bp a' 0] (low ++ own) (.ret (.bool b)) (low' ++ own) := by
  obtain ⟨hl, h0', hown⟩ := h
  obtain ⟨hy, hs⟩ := hown own ho
  have hlt := own_lt h0' (by rw [hl]; exact ho : OwnOk low'.length own)
  have hlen : (low' ++ own).length = (low ++ own).length := by simp [hl]
  generalize low ++ own = S at *
  generalize low' ++ own = S' at *
  refine CallOk.ofB hTT Tryz.func167 rfl rfl ?_ hlen (by rw [← hlen]; exact hlt) .bool
  have hn' : ((now.length : Int) == (spans.length : Int)) = true := by simp [hn]
  repeat (first | (with_reducible (first | apply RegQY.nil | apply wB | apply wC | apply wD | apply wE | apply wF | apply wG | apply wH | apply wI | apply wJ | apply wK | apply wL | apply wM | apply wN | apply wO | apply wP | apply wQ rfl | apply wR | apply wS | apply wT | apply wU)) | ((with_reducible (first | apply RegQY.step | apply wW | apply wX | (apply wY [] hTT cf0_ok noM_ok mixed; (focus kernel_rfl)))); (focus (simp only [Tryz.f167, hn', hY, yfOne, go_sem]; with_reducible rfl))) | (with_reducible refine RunQ.regY hTT cf0_ok (yfOne_ok hy hs) noM_ok ?_) | (with_reducible refine wa ?_; refine And.intro ?_ ?_; (focus kernel_rfl)))
  exact ⟨rfl, hs, rfl, [], by simp⟩
theorem sameLoops_pre (S : List Box) {B B' : List Box} (h : SameLoops B B') : SameLoops (S ++ B) (S ++ B') := by
  refine ⟨fun id lr e => ?_, fun id lr e => ?_⟩ <;> by_cases hid : id < S.length
  · exact ⟨lr, by rw [List.getElem?_append_left hid] at e ⊢; exact e⟩
  · rw [List.getElem?_append_right (by omega)] at e ⊢
    exact h.1 _ lr e
  · exact ⟨lr, by rw [List.getElem?_append_left hid] at e ⊢; exact e⟩
  · rw [List.getElem?_append_right (by omega)] at e ⊢
    exact h.2 _ lr e
/-- A call whose first argument is a row that may be frozen ahead. -/
theorem call_frz {f : FuncId} {S B : List Box} {k0 p m k : Nat} {e : TypeId} {es rest : List PV} {r : PRes} {sg' : List Box} (hk : S.length = k0) (hp : B[p]? = some (.row false e k es false)) (hc : closedL es = true) (hm : es.length = m)
    (hr : ∀ sg, mapO (viewV sg) rest = some rest) (h : CallOk Tryz.prog f (.sl .a es :: rest) (S ++ B.set p (.row false e k es true)) r sg') : CallOk Tryz.prog f (.ms (k0 + p) m :: rest) (S ++ B) r sg' := by
  subst hk
  have hget : (S ++ B)[S.length + p]? = some (.row false e k es false) := by rw [app_get]; exact hp
  have hrows : rowsOf (S ++ B) [S.length + p] = S ++ B.set p (.row false e k es true) := by
    unfold rowsOf
    simp only [hget, rowsOf]
    rw [frzL_closed (n := 4) (flat es) _ (closedL_flat es hc)]
    simp only [regroup_self]
    exact app_set _ _ _ _
  refine h.ghost ?_ ?_
  · have := Ghost.rows [S.length + p] (S ++ B) ⟨argT 0 (.ms (S.length + p) m :: rest), (PV.ms (S.length + p) m :: rest).length, S ++ B⟩ rfl
    rw [hrows] at this
    exact this
  · have hv : viewV (S ++ B.set p (.row false e k es true)) (.ms (S.length + p) m) = some (.sl .a es) := by
      show view1 _ (.ms (S.length + p) m) = _
      have hg2 : (S ++ B.set p (.row false e k es true))[S.length + p]? = some (.row false e k es true) := by rw [app_get, List.getElem?_set_self (List.getElem?_eq_some_iff.1 hp).1]
      unfold view1
      simp [hg2, hm]
    simp only [mapO, hv, hr]
end Go.Pv
namespace Go.Pv
open Go Go.RowKit Go.Proofs
set_option maxRecDepth 10000
set_option maxHeartbeats 4000000
theorem rng_get {lo hi : Int} {i : Nat} (h : i < (hi + 1 - lo).toNat) : (rng lo hi).drop i = (lo + (i : Int)) :: (rng lo hi).drop (i + 1) := by
  have hlen : i < (rng lo hi).length := by simp [rng]; omega
  rw [List.drop_eq_getElem_cons hlen]
  simp [rng]
theorem rng_end {lo hi : Int} {i : Nat} (h : (hi + 1 - lo).toNat ≤ i) : (rng lo hi).drop i = [] := List.drop_eq_nil_of_le (by simp [rng]; omega)
abbrev spP (zs : Z) (spans : List (Int × Int)) : PV := .ip [.sl zs (spans.map spE)]
/-- What is still to be yielded. -/
def restE (r : List (Int × Int)) (now : List Int) (lo hi : Int) (i : Nat) : List (List PV) := (((rng lo hi).drop i).flatMap fun n => exts r (now ++ [n])).map fun l => [pvL l]
theorem search_loop (id : Nat) (zs zn : Z) (spans : List (Int × Int)) (r : List (Int × Int)) (now : List Int) (lo hi : Int) (low own low' : List Box) (b : Bool) (a a' : Nat) (hzs : zs ≠ .n) (hbd : -1000 ≤ lo ∧ lo ≤ 1000 ∧ -1000 ≤ hi ∧ hi ≤ 1000)
    (hsp : spans.length ≤ 1000) (hzn : pvL now = .sl zn (now.map ii)) (hs : spans[now.length]? = some (lo, hi)) (h0 : OwnOk 0 low) (ho : OwnOk low.length own)
    (hY : ∀ lw : List Box, lw.length = low.length → (lw ++ own)[a]? = some (.var [.yl id] false)) (hF : ∀ lw : List Box, lw.length = low.length → (lw ++ own)[a']? = some (.var [.fn (.func 167) [] [spP zs spans, .bp a 0, .bp a' 0]] false))
    (IH : ∀ (n : Int) (lw own1 lw' : List Box) (b1 : Bool), lw.length = low.length → OwnOk 0 lw → OwnOk lw.length (own ++ own1) → FoldR (YR Tryz.prog id) ((exts r (now ++ [n])).map fun l => [pvL l]) lw b1 lw' →
      CallOk Tryz.prog 167 [pvL (now ++ [n]), spP zs spans, .bp a 0, .bp a' 0] (lw ++ (own ++ own1)) (.ret (.bool b1)) (lw' ++ (own ++ own1)))
    (h : FoldR (YR Tryz.prog id) (restE r now lo hi 0) low b low') :
    CallOk Tryz.prog 167 [.sl zn (now.map ii), spP zs spans, .bp a 0, .bp a' 0] (low ++ own) (.ret (.bool b)) (low' ++ own) := by
  obtain ⟨hl', h0'⟩ := foldR_len h h0
  have hlt' := own_lt h0' (by rw [hl']; exact ho : OwnOk low'.length own)
  have hlen' : (low' ++ own).length = (low ++ own).length := by simp [hl']
  refine CallOk.ofB hTT Tryz.func167 rfl rfl ?_ hlen' (by rw [← hlen']; exact hlt') .bool
  have hnl : now.length < spans.length := (List.getElem?_eq_some_iff.1 hs).1
  have hn' : ((now.length : Int) == (spans.length : Int)) = false := by simp; omega
  have hs' : (spans.map spE)[now.length]? = some (.agg [ii lo, ii hi]) := map_get hs
  have hn0 : (0 : Int) ≤ now.length := by omega
  have hk0 : (low ++ own).length = low.length + own.length := by simp
  generalize hK : low.length + own.length = k0 at *
  have hS : ∀ lw : List Box, lw.length = low.length → (lw ++ own).length = k0 := fun lw h => by simp [h]; omega
  generalize hS0 : low ++ own = S at *
  have g0 : ∀ B : List Box, (S ++ B)[k0]? = B[0]? := fun B => by rw [← hk0]; exact app_get0 S B
  have s0 : ∀ (B : List Box) (x : Box), (S ++ B).set k0 x = S ++ B.set 0 x := fun B x => by rw [← hk0]; exact app_set0 S B x
  repeat (first | (with_reducible (first | apply wA | apply wB | apply wC | apply wD | apply wE | apply wF | apply wG | apply wH | apply wI | apply wJ | apply wK | apply wL | apply wM | apply wN | apply wO | apply wP | apply wQ rfl | apply wR | apply wS | apply wT | apply wU)) | ((with_reducible (first | apply wV | apply wW | apply wX | (apply wY [] hTT cf0_ok noM_ok mixed; (focus kernel_rfl)))); (focus (simp only [Tryz.f167, hn', hzs, hs', hn0, hk0, g0, s0, go_sem]; with_reducible rfl))) | (with_reducible refine wZ hTT cf0_ok noM_ok ?_) | (with_reducible refine wa ?_; refine And.intro ?_ ?_; (focus kernel_rfl)))
  refine RunQ.keep [7, 6, 5, 0, 1, 2, 3] (by simp only [go_sem]; rfl) ?_
  refine RunQ.loop (fun i s' => ∃ lw : List Box, lw.length = low.length ∧ OwnOk 0 lw ∧ SameLoops S (lw ++ own) ∧ FoldR (YR Tryz.prog id) (restE r now lo hi i) lw b low' ∧
    s' = ⟨[(7, ii (lo + (i : Int))), (6, .bp k0 0), (5, .bool false), (0, .sl zn (now.map ii)), (1, spP zs spans), (2, .bp a 0), (3, .bp a' 0)], 37, lw ++ (own ++ [Box.var [ii lo, ii hi] false])⟩)
    (hi + 1 - lo).toNat ⟨low, rfl, h0, by rw [hS0]; exact SameLoops.refl _, h, by rw [← hS0]; simp⟩ ?_
  rintro i _ hi' ⟨lw, hlw, hlw0, hsl, hfold, rfl⟩
  have hkk := hS lw hlw
  have hYw := hY lw hlw
  have hFw := hF lw hlw
  rw [← List.append_assoc]
  generalize hSi : lw ++ own = Si at *
  have g0 : ∀ B : List Box, (Si ++ B)[k0]? = B[0]? := fun B => by rw [← hkk]; exact app_get0 Si B
  have g1 : ∀ (B : List Box) (n : Nat), (Si ++ B)[k0 + n]? = B[n]? := fun B n => by rw [← hkk]; exact app_get Si B n
  have s0 : ∀ (B : List Box) (x : Box), (Si ++ B).set k0 x = Si ++ B.set 0 x := fun B x => by rw [← hkk]; exact app_set0 Si B x
  have s1 : ∀ (B : List Box) (n : Nat) (x : Box), (Si ++ B).set (k0 + n) x = Si ++ B.set n x := fun B n x => by rw [← hkk]; exact app_set Si B n x
  have gY : ∀ B : List Box, (Si ++ B)[a]? = some (.var [.yl id] false) := app_low hYw
  have gF : ∀ B : List Box, (Si ++ B)[a']? = some (.var [.fn (.func 167) [] [spP zs spans, .bp a 0, .bp a' 0]] false) := app_low hFw
  have hadd : ∀ n m : Nat, k0 + n + m = k0 + (n + m) := fun n m => Nat.add_assoc _ _ _
  by_cases hlt : i < (hi + 1 - lo).toNat
  · have hle : lo + (i : Int) ≤ hi := by omega
    have hpv : pvL (now ++ [lo + (i : Int)]) = .sl .a (now.map ii ++ [ii (lo + (i : Int))]) := by unfold pvL; cases now <;> simp
    have hcl : closedL (now.map ii ++ [ii (lo + (i : Int))]) = true := by rw [closedL_append, closedL_is]; rfl
    have key : ∀ (b1 : Bool) (lw1 B B' : List Box) (p : Nat), B[p]? = some (.row false 3 1 (now.map ii ++ [ii (lo + (i : Int))]) false) → B.set p (.row false 3 1 (now.map ii ++ [ii (lo + (i : Int))]) true) = B' → SameLoops B B' → (∀ x ∈ B', x.ltB 0 = true) → FoldR (YR Tryz.prog id) ((exts r (now ++ [lo + (i : Int)])).map fun l => [pvL l]) lw b1 lw1 →
        CallOk Tryz.prog 167 [.ms (k0 + p) (now.length + 1), spP zs spans, .bp a 0, .bp a' 0] (Si ++ B) (.ret (.bool b1)) ((lw1 ++ own) ++ B') ∧ SameLoops (Si ++ B) ((lw1 ++ own) ++ B') := by
      intro b1 lw1 B B' p hp hB hSB hlt0 hf1
      have hown : OwnOk lw.length (own ++ B') := by
        intro x hx
        rcases List.mem_append.1 hx with hx | hx
        · exact (ho x hx).mono (by simp [hlw])
        · exact (boxLt_of (hlt0 x hx)).mono (by omega)
      have := IH (lo + (i : Int)) lw _ lw1 b1 hlw hlw0 hown hf1
      rw [hpv, ← List.append_assoc, ← List.append_assoc, hSi] at this
      refine ⟨call_frz (p := p) hkk hp hcl (by simp) (fun sg => rfl) (by rw [hB]; exact this), ?_⟩
      have h2 := foldR_same hf1 hown
      rw [← List.append_assoc, ← List.append_assoc, hSi] at h2
      exact (sameLoops_pre Si hSB).trans h2
    have ha0 : a < k0 := by rw [← hkk]; exact (List.getElem?_eq_some_iff.1 hYw).1
    have ha1 : a' < k0 := by rw [← hkk]; exact (List.getElem?_eq_some_iff.1 hFw).1
    have hne : a ≠ a' := fun e => by
      subst e
      rw [hYw] at hFw
      simp at hFw
    have hnd : [a', k0 + 1, k0 + 2, k0 + 3, a].Nodup := by simp; omega
    have e4 : IntKind.i64.wrap (lo + (i : Int) + 1) = lo + ((i + 1 : Nat) : Int) := by rw [wrap_id (by omega) (by omega)]; omega
    have hspc : (spP zs spans).closed = true := by
      show closedL [.sl zs (spans.map spE)] = true
      have : closedL (spans.map spE) = true := closedL_map (fun _ => rfl) _
      simp [closedL, PV.closed, this]
    have hznc : (PV.sl zn (now.map ii)).closed = true := closedL_is now
    have fin : ∀ (Q : Out → St → Prop) (lw1 B' : List Box) (tm : List (Nat × PV)), FoldR (YR Tryz.prog id) ((exts r (now ++ [lo + (i : Int)])).map fun l => [pvL l]) lw true lw1 → FoldR (YR Tryz.prog id) (restE r now lo hi (i + 1)) lw1 b low' → noLoops B' = true →
        keepN [7, 6, 5, 0, 1, 2, 3] tm = [(7, ii (lo + ((i + 1 : Nat) : Int))), (6, .bp k0 0), (5, .bool false), (0, .sl zn (now.map ii)), (1, spP zs spans), (2, .bp a 0), (3, .bp a' 0)] →
        roundQ Tryz.prog (fun i s' => ∃ lw : List Box, lw.length = low.length ∧ OwnOk 0 lw ∧ SameLoops S (lw ++ own) ∧ FoldR (YR Tryz.prog id) (restE r now lo hi i) lw b low' ∧
          s' = ⟨[(7, ii (lo + (i : Int))), (6, .bp k0 0), (5, .bool false), (0, .sl zn (now.map ii)), (1, spP zs spans), (2, .bp a 0), (3, .bp a' 0)], 37, lw ++ (own ++ [Box.var [ii lo, ii hi] false])⟩) (hi + 1 - lo).toNat i (Si ++ [Box.var [ii lo, ii hi] false]).length
          Q .normal ⟨tm, 37, lw1 ++ (own ++ (Box.var [ii lo, ii hi] false :: B'))⟩ := by
      intro Q lw1 B' tm hf1 hf2 hnl hk
      obtain ⟨l1, l2⟩ := foldR_len hf1 hlw0
      have l1' : lw1.length = low.length := by omega
      have hS1 := hS lw1 l1'
      have hlen : (lw1 ++ (own ++ [Box.var [ii lo, ii hi] false])).length = k0 + 1 := by
        rw [← List.append_assoc, List.length_append, hS1]; rfl
      refine roundQ.b hlt (Back.cutP [7, 6, 5, 0, 1, 2, 3] (lw1 ++ (own ++ [Box.var [ii lo, ii hi] false])) B' (by simp) (by rw [hlen]; simp [hkk]) hk (fun p hp => ?_) (fun x hx => ?_) hnl) ⟨lw1, l1', l2, ?_, hf2, rfl⟩
      · rw [hlen]
        simp only [List.mem_cons, List.not_mem_nil, or_false] at hp
        rcases hp with rfl | rfl | rfl | rfl | rfl | rfl | rfl
        · exact .int
        · exact .bp (by omega)
        · exact .bool
        · exact (lt_of_closed _ hznc).mono (by omega)
        · exact (lt_of_closed _ hspc).mono (by omega)
        · exact .bp (by omega)
        · exact .bp (by omega)
      · rw [hlen]
        rw [← List.append_assoc] at hx
        rcases List.mem_append.1 hx with hx | hx
        · have := own_lt l2 (by rw [l1']; exact ho : OwnOk lw1.length own) x hx
          rw [hS1] at this
          exact this.mono (by omega)
        · simp at hx; subst hx
          exact (boxLt_of (show (Box.var [ii lo, ii hi] false).ltB 0 = true from rfl)).mono (by omega)
      · have h2 := foldR_same hf1 (by rw [hlw]; exact ho : OwnOk lw.length own)
        rw [hSi] at h2
        exact hsl.trans h2
    rw [restE, rng_get hlt, List.flatMap_cons, List.map_append] at hfold
    by_cases hnow : now = []
    · subst hnow
      have hzn' : zn = .n := by
        have : pvL [] = .sl .n [] := rfl
        rw [this] at hzn
        cases hzn; rfl
      subst hzn'
      have r1 : (1 : Nat) * 8 ≤ 140737488355328 := by omega
      have r2 : 1 ≤ maxLen := by unfold maxLen; omega
      have hr0 : (0 : Nat) = 0 := rfl
      rcases FoldR.split hfold with ⟨rfl, hf1⟩ | ⟨lw1, hf1, hf2⟩
      · obtain ⟨hc1, hc2⟩ := key false low' [.var [ii lo, ii hi] false, .dead, .row false 3 1 [ii (lo + (i : Int))] false, .dead] [.var [ii lo, ii hi] false, .dead, .row false 3 1 [ii (lo + (i : Int))] true, .dead] 2 rfl rfl (sameLoops_of _ _ rfl) (by
          intro x hx
          simp only [List.mem_cons, List.not_mem_nil, or_false] at hx
          rcases hx with rfl | rfl | rfl | rfl <;> first | rfl | exact ltBL_of_closed 0 _ hcl) hf1
        repeat (first | (with_reducible (first | apply wA | ((fail_if_success (refine RunQ.seq (x := .region 7 _ _) ?_)); (apply wB)) | apply wC | apply wD | apply wE | apply wF | apply wG | apply wH | apply wI | apply wJ | apply wK | apply wL | apply wM | apply wN | apply wO | apply wP | apply wQ rfl | apply wR | apply wS | apply wT | apply wU)) | ((with_reducible (first | apply wV | apply wW | apply wX | (apply wY [] hTT cfLb_ok noM_ok mixed; (focus kernel_rfl)))); (focus (simp only [Tryz.f167, hle, g0, go_sem]; with_reducible rfl))) | ((fail_if_success (with_reducible show RunQ _ (.region 7 _ _) _ _)); (with_reducible refine wZ hTT cfLb_ok noM_ok ?_)) | (with_reducible refine wa ?_; refine And.intro ?_ ?_; (focus kernel_rfl)))
        refine RunQ.seq ?_
        refine RunQ.drawn [] hTT (cfOne_ok cfLb_ok (ent Tryz.func167 rfl) hc1 hc2) noM_ok mixed (by kernel_rfl) (by simp only [hkk, hadd, go_sem]; rfl) ?_
        iterate 6 (apply DrawQ.step; (focus (simp only [Tryz.f167, gF, g0, g1, s0, s1, hkk, hadd, cfLb, c117, hr0, r1, r2, closedL_is, cfOne, go_sem]; with_reducible rfl)))
        refine DrawQ.full rfl (by simp only [go_sem]) (by simp only [go_sem]) (by simp only [g1, go_sem]) (by simp only [cfOne, Nat.zero_add, go_sem]; rfl) ?_
        apply DrawQ.step
        · simp only [go_sem]; rfl
        refine DrawQ.nil ⟨boxOk_ren [a', k0 + 1, k0 + 2, k0 + 3, a] [(false, none, [0]), (false, none, []), (false, none, [1]), (false, none, []), (false, none, []), (false, some 2, [2]), (true, none, [3, 4, 0, 2]), (false, none, [])] hnd (by kernel_rfl) rfl (by kernel_rfl), ?_⟩
        repeat (first | (with_reducible (first | apply wA | apply wB | apply wC | apply wD | apply wE | apply wF | apply wG | apply wH | apply wI | apply wJ | apply wK | apply wL | apply wM | apply wN | apply wO | apply wP | apply wQ rfl | apply wR | apply wS | apply wT | apply wU)) | ((with_reducible (first | apply wV | apply wW | apply wX | (apply wY [] hTT cf0_ok noM_ok mixed; (focus kernel_rfl)))); (focus (simp only [Tryz.f167, go_sem]; with_reducible rfl))) | (with_reducible refine wZ hTT cf0_ok noM_ok ?_) | (with_reducible refine wa ?_; refine And.intro ?_ ?_; (focus kernel_rfl)))
        refine ⟨rfl, ?_, rfl, [.var [ii lo, ii hi] false, .dead, .row false 3 1 [ii (lo + (i : Int))] true, .dead], by simp⟩
        have h2 := foldR_same hf1 (by rw [hlw]; exact ho : OwnOk lw.length own)
        rw [hSi] at h2
        have := (hsl.trans h2).app [.var [ii lo, ii hi] false, .dead, .row false 3 1 [ii (lo + (i : Int))] true, .dead] rfl
        simpa using this
      · obtain ⟨hc1, hc2⟩ := key true lw1 [.var [ii lo, ii hi] false, .dead, .row false 3 1 [ii (lo + (i : Int))] false, .dead] [.var [ii lo, ii hi] false, .dead, .row false 3 1 [ii (lo + (i : Int))] true, .dead] 2 rfl rfl (sameLoops_of _ _ rfl) (by
          intro x hx
          simp only [List.mem_cons, List.not_mem_nil, or_false] at hx
          rcases hx with rfl | rfl | rfl | rfl <;> first | rfl | exact ltBL_of_closed 0 _ hcl) hf1
        repeat (first | (with_reducible (first | apply wA | ((fail_if_success (refine RunQ.seq (x := .region 7 _ _) ?_)); (apply wB)) | apply wC | apply wD | apply wE | apply wF | apply wG | apply wH | apply wI | apply wJ | apply wK | apply wL | apply wM | apply wN | apply wO | apply wP | apply wQ rfl | apply wR | apply wS | apply wT | apply wU)) | ((with_reducible (first | apply wV | apply wW | apply wX | (apply wY [] hTT cfLb_ok noM_ok mixed; (focus kernel_rfl)))); (focus (simp only [Tryz.f167, hle, g0, go_sem]; with_reducible rfl))) | ((fail_if_success (with_reducible show RunQ _ (.region 7 _ _) _ _)); (with_reducible refine wZ hTT cfLb_ok noM_ok ?_)) | (with_reducible refine wa ?_; refine And.intro ?_ ?_; (focus kernel_rfl)))
        refine RunQ.seq ?_
        refine RunQ.drawn [] hTT (cfOne_ok cfLb_ok (ent Tryz.func167 rfl) hc1 hc2) noM_ok mixed (by kernel_rfl) (by simp only [hkk, hadd, go_sem]; rfl) ?_
        iterate 6 (apply DrawQ.step; (focus (simp only [Tryz.f167, gF, g0, g1, s0, s1, hkk, hadd, cfLb, c117, hr0, r1, r2, closedL_is, cfOne, go_sem]; with_reducible rfl)))
        refine DrawQ.full rfl (by simp only [go_sem]) (by simp only [go_sem]) (by simp only [g1, go_sem]) (by simp only [cfOne, Nat.zero_add, go_sem]; rfl) ?_
        apply DrawQ.step
        · simp only [go_sem]; rfl
        refine DrawQ.nil ⟨boxOk_ren [a', k0 + 1, k0 + 2, k0 + 3, a] [(false, none, [0]), (false, none, []), (false, none, [1]), (false, none, []), (false, none, []), (false, some 2, [2]), (true, none, [3, 4, 0, 2]), (false, none, [])] hnd (by kernel_rfl) rfl (by kernel_rfl), ?_⟩
        repeat (first | (with_reducible (first | apply wA | apply wB | apply wC | apply wD | apply wE | apply wF | apply wG | apply wH | apply wI | apply wJ | apply wK | apply wL | apply wM | apply wN | apply wO | apply wP | apply wQ rfl | apply wR | apply wS | apply wT | apply wU)) | ((with_reducible (first | apply wV | apply wW | apply wX | (apply wY [] hTT cf0_ok noM_ok mixed; (focus kernel_rfl)))); (focus (simp only [Tryz.f167, e4, go_sem]; with_reducible rfl))) | (with_reducible refine wZ hTT cf0_ok noM_ok ?_) | (with_reducible refine wa ?_; refine And.intro ?_ ?_; (focus kernel_rfl)))
        refine fin _ lw1 _ _ hf1 hf2 ?_ ?_
        · rfl
        · simp only [go_sem]
    · have hzn' : zn = .a := by
        have : pvL now = .sl .a (now.map ii) := by unfold pvL; cases now with
          | nil => exact absurd rfl hnow
          | cons x l => rfl
        rw [this] at hzn
        cases hzn; rfl
      subst hzn'
      have hdec : decL decI (now.map ii) = some now := decIs now
      have hn1 : now.length ≤ 1000 := by omega
      have r1 : (now.length + 1) * 8 ≤ 140737488355328 := by omega
      have r2 : now.length + 1 ≤ maxLen := by unfold maxLen; omega
      rcases FoldR.split hfold with ⟨rfl, hf1⟩ | ⟨lw1, hf1, hf2⟩
      · obtain ⟨hc1, hc2⟩ := key false low' [.var [ii lo, ii hi] false, .row false 3 1 (now.map ii ++ [ii (lo + (i : Int))]) false, .dead, .dead] [.var [ii lo, ii hi] false, .row false 3 1 (now.map ii ++ [ii (lo + (i : Int))]) true, .dead, .dead] 1 rfl rfl (sameLoops_of _ _ rfl) (by
          intro x hx
          simp only [List.mem_cons, List.not_mem_nil, or_false] at hx
          rcases hx with rfl | rfl | rfl | rfl <;> first | rfl | exact ltBL_of_closed 0 _ hcl) hf1
        repeat (first | (with_reducible (first | apply wA | ((fail_if_success (refine RunQ.seq (x := .region 7 _ _) ?_)); (apply wB)) | apply wC | apply wD | apply wE | apply wF | apply wG | apply wH | apply wI | apply wJ | apply wK | apply wL | apply wM | apply wN | apply wO | apply wP | apply wQ rfl | apply wR | apply wS | apply wT | apply wU)) | ((with_reducible (first | apply wV | apply wW | apply wX | (apply wY [] hTT cfLb_ok noM_ok mixed; (focus kernel_rfl)))); (focus (simp only [Tryz.f167, hle, g0, go_sem]; with_reducible rfl))) | ((fail_if_success (with_reducible show RunQ _ (.region 7 _ _) _ _)); (with_reducible refine wZ hTT cfLb_ok noM_ok ?_)) | (with_reducible refine wa ?_; refine And.intro ?_ ?_; (focus kernel_rfl)))
        refine RunQ.seq ?_
        refine RunQ.drawn [] hTT (cfOne_ok cfLb_ok (ent Tryz.func167 rfl) hc1 hc2) noM_ok mixed (by kernel_rfl) (by simp only [hkk, hadd, go_sem]; rfl) ?_
        iterate 6 (apply DrawQ.step; (focus (simp only [Tryz.f167, gF, g0, g1, s0, s1, hkk, hadd, cfLb, c117, hdec, hnow, hn1, r1, r2, closedL_is, cfOne, go_sem]; with_reducible rfl)))
        refine DrawQ.full rfl (by simp only [go_sem]) (by simp only [go_sem]) (by simp only [g1, go_sem]) (by simp only [cfOne, Nat.zero_add, go_sem]; rfl) ?_
        apply DrawQ.step
        · simp only [go_sem]; rfl
        refine DrawQ.nil ⟨boxOk_ren [a', k0 + 1, k0 + 2, k0 + 3, a] [(false, none, [0]), (false, none, []), (false, some 1, [1]), (false, none, []), (false, none, []), (false, some 1, [2, 1]), (true, none, [3, 4, 0, 1]), (false, none, [])] hnd (by kernel_rfl) rfl (by kernel_rfl), ?_⟩
        repeat (first | (with_reducible (first | apply wA | apply wB | apply wC | apply wD | apply wE | apply wF | apply wG | apply wH | apply wI | apply wJ | apply wK | apply wL | apply wM | apply wN | apply wO | apply wP | apply wQ rfl | apply wR | apply wS | apply wT | apply wU)) | ((with_reducible (first | apply wV | apply wW | apply wX | (apply wY [] hTT cf0_ok noM_ok mixed; (focus kernel_rfl)))); (focus (simp only [Tryz.f167, go_sem]; with_reducible rfl))) | (with_reducible refine wZ hTT cf0_ok noM_ok ?_) | (with_reducible refine wa ?_; refine And.intro ?_ ?_; (focus kernel_rfl)))
        refine ⟨rfl, ?_, rfl, [.var [ii lo, ii hi] false, .row false 3 1 (now.map ii ++ [ii (lo + (i : Int))]) true, .dead, .dead], by simp⟩
        have h2 := foldR_same hf1 (by rw [hlw]; exact ho : OwnOk lw.length own)
        rw [hSi] at h2
        have := (hsl.trans h2).app [.var [ii lo, ii hi] false, .row false 3 1 (now.map ii ++ [ii (lo + (i : Int))]) true, .dead, .dead] rfl
        simpa using this
      · obtain ⟨hc1, hc2⟩ := key true lw1 [.var [ii lo, ii hi] false, .row false 3 1 (now.map ii ++ [ii (lo + (i : Int))]) false, .dead, .dead] [.var [ii lo, ii hi] false, .row false 3 1 (now.map ii ++ [ii (lo + (i : Int))]) true, .dead, .dead] 1 rfl rfl (sameLoops_of _ _ rfl) (by
          intro x hx
          simp only [List.mem_cons, List.not_mem_nil, or_false] at hx
          rcases hx with rfl | rfl | rfl | rfl <;> first | rfl | exact ltBL_of_closed 0 _ hcl) hf1
        repeat (first | (with_reducible (first | apply wA | ((fail_if_success (refine RunQ.seq (x := .region 7 _ _) ?_)); (apply wB)) | apply wC | apply wD | apply wE | apply wF | apply wG | apply wH | apply wI | apply wJ | apply wK | apply wL | apply wM | apply wN | apply wO | apply wP | apply wQ rfl | apply wR | apply wS | apply wT | apply wU)) | ((with_reducible (first | apply wV | apply wW | apply wX | (apply wY [] hTT cfLb_ok noM_ok mixed; (focus kernel_rfl)))); (focus (simp only [Tryz.f167, hle, g0, go_sem]; with_reducible rfl))) | ((fail_if_success (with_reducible show RunQ _ (.region 7 _ _) _ _)); (with_reducible refine wZ hTT cfLb_ok noM_ok ?_)) | (with_reducible refine wa ?_; refine And.intro ?_ ?_; (focus kernel_rfl)))
        refine RunQ.seq ?_
        refine RunQ.drawn [] hTT (cfOne_ok cfLb_ok (ent Tryz.func167 rfl) hc1 hc2) noM_ok mixed (by kernel_rfl) (by simp only [hkk, hadd, go_sem]; rfl) ?_
        iterate 6 (apply DrawQ.step; (focus (simp only [Tryz.f167, gF, g0, g1, s0, s1, hkk, hadd, cfLb, c117, hdec, hnow, hn1, r1, r2, closedL_is, cfOne, go_sem]; with_reducible rfl)))
        refine DrawQ.full rfl (by simp only [go_sem]) (by simp only [go_sem]) (by simp only [g1, go_sem]) (by simp only [cfOne, Nat.zero_add, go_sem]; rfl) ?_
        apply DrawQ.step
        · simp only [go_sem]; rfl
        refine DrawQ.nil ⟨boxOk_ren [a', k0 + 1, k0 + 2, k0 + 3, a] [(false, none, [0]), (false, none, []), (false, some 1, [1]), (false, none, []), (false, none, []), (false, some 1, [2, 1]), (true, none, [3, 4, 0, 1]), (false, none, [])] hnd (by kernel_rfl) rfl (by kernel_rfl), ?_⟩
        repeat (first | (with_reducible (first | apply wA | apply wB | apply wC | apply wD | apply wE | apply wF | apply wG | apply wH | apply wI | apply wJ | apply wK | apply wL | apply wM | apply wN | apply wO | apply wP | apply wQ rfl | apply wR | apply wS | apply wT | apply wU)) | ((with_reducible (first | apply wV | apply wW | apply wX | (apply wY [] hTT cf0_ok noM_ok mixed; (focus kernel_rfl)))); (focus (simp only [Tryz.f167, e4, go_sem]; with_reducible rfl))) | (with_reducible refine wZ hTT cf0_ok noM_ok ?_) | (with_reducible refine wa ?_; refine And.intro ?_ ?_; (focus kernel_rfl)))
        refine fin _ lw1 _ _ hf1 hf2 ?_ ?_
        · rfl
        · simp only [go_sem]
  · have hle : ¬ lo + (i : Int) ≤ hi := by omega
    rw [restE, rng_end (by omega)] at hfold
    have hb' : b = true ∧ low' = lw := by
      cases hfold
      exact ⟨rfl, rfl⟩
    obtain ⟨rfl, rfl⟩ := hb'
    repeat (first | (with_reducible (first | apply wA | apply wB | apply wC | apply wD | apply wE | apply wF | apply wG | apply wH | apply wI | apply wJ | apply wK | apply wL | apply wM | apply wN | apply wO | apply wP | apply wQ rfl | apply wR | apply wS | apply wT | apply wU)) | ((with_reducible (first | apply wV | apply wW | apply wX | (apply wY [] hTT cf0_ok noM_ok mixed; (focus kernel_rfl)))); (focus (simp only [Tryz.f167, hle, g0, go_sem]; with_reducible rfl))) | (with_reducible refine wZ hTT cf0_ok noM_ok ?_) | (with_reducible refine wa ?_; refine And.intro ?_ ?_; (focus kernel_rfl)))
    refine ⟨rfl, ?_, rfl, [.var [ii lo, ii hi] false], ?_⟩
    · have := hsl.app [.var [ii lo, ii hi] false] rfl
      exact this
    · rw [hSi]
end Go.Pv
namespace Go.Pv
open Go Go.RowKit Go.Proofs
set_option maxRecDepth 10000
set_option maxHeartbeats 4000000
theorem search_167 (id : Nat) (zs : Z) (spans : List (Int × Int)) (hzs : zs ≠ .n) (hb : ∀ s ∈ spans, -1000 ≤ s.1 ∧ s.1 ≤ 1000 ∧ -1000 ≤ s.2 ∧ s.2 ≤ 1000) (hsp : spans.length ≤ 1000) : ∀ (rest : List (Int × Int)) (now : List Int) (low own low' : List Box) (b : Bool) (a a' : Nat),
    spans.drop now.length = rest → now.length ≤ spans.length → OwnOk 0 low → OwnOk low.length own → (∀ lw : List Box, lw.length = low.length → (lw ++ own)[a]? = some (.var [.yl id] false)) →
    (∀ lw : List Box, lw.length = low.length → (lw ++ own)[a']? = some (.var [.fn (.func 167) [] [spP zs spans, .bp a 0, .bp a' 0]] false)) → FoldR (YR Tryz.prog id) ((exts rest now).map fun l => [pvL l]) low b low' →
    CallOk Tryz.prog 167 [pvL now, spP zs spans, .bp a 0, .bp a' 0] (low ++ own) (.ret (.bool b)) (low' ++ own) := by
  intro rest
  induction rest with
  | nil =>
    intro now low own low' b a a' hd hn h0 ho hY hF h
    have hlen : spans.length ≤ now.length := by
      rw [← List.drop_eq_nil_iff]; exact hd
    obtain ⟨zn, hzn⟩ : ∃ zn, pvL now = .sl zn (now.map ii) := ⟨_, rfl⟩
    have h1 : YR Tryz.prog id [pvL now] low b low' := by
      have e : (exts [] now).map (fun l => [pvL l]) = [[pvL now]] := rfl
      rw [e] at h
      cases h with
      | stop h => exact h
      | next h k => cases k; exact h
    rw [hzn] at h1 ⊢
    exact search_base id zs zn spans now low own low' b a a' (by omega) h0 ho (hY low rfl) h1
  | cons s r ih =>
    intro now low own low' b a a' hd hn h0 ho hY hF h
    have hs : spans[now.length]? = some s := by
      have := congrArg (fun l => l[0]?) hd
      simpa using this
    have hr : spans.drop (now.length + 1) = r := by
      have := congrArg (fun l => l.drop 1) hd
      simpa using this
    obtain ⟨lo, hi⟩ := s
    obtain ⟨zn, hzn⟩ : ∃ zn, pvL now = .sl zn (now.map ii) := ⟨_, rfl⟩
    have hlt := (List.getElem?_eq_some_iff.1 hs).1
    rw [hzn]
    refine search_loop id zs zn spans r now lo hi low own low' b a a' hzs (hb _ (List.mem_of_getElem? hs)) hsp hzn hs h0 ho hY hF (fun n lw own1 lw' b1 hl hl0 hown hf => ?_) h
    refine ih (now ++ [n]) lw (own ++ own1) lw' b1 a a' (by simpa using hr) (by simp; omega) hl0 hown (fun l2 h2 => ?_) (fun l2 h2 => ?_) hf
    · rw [← List.append_assoc]; exact app_low (hY l2 (by omega)) _
    · rw [← List.append_assoc]; exact app_low (hF l2 (by omega)) _
theorem lists_166 (zs : Z) (spans : List (Int × Int)) (hzs : zs ≠ .n) (hb : ∀ s ∈ spans, -1000 ≤ s.1 ∧ s.1 ≤ 1000 ∧ -1000 ≤ s.2 ∧ s.2 ≤ 1000) (hsp : spans.length ≤ 1000) :
    IterOk Tryz.prog 166 (fun id => [.yl id, spP zs spans]) ((exts spans []).map fun l => [pvL l]) := by
  intro id low b low' h0 hid h
  obtain ⟨hl', h0'⟩ := foldR_len h h0
  have hspc : (spP zs spans).closed = true := by
    show closedL [.sl zs (spans.map spE)] = true
    have : closedL (spans.map spE) = true := closedL_map (fun _ => rfl) _
    simp [closedL, PV.closed, this]
  have hown : ∀ lw : List Box, lw.length = low.length → OwnOk lw.length [.var [.yl id] false, .var [.fn (.func 167) [] [spP zs spans, .bp low.length 0, .bp (low.length + 1) 0]] false] := by
    intro lw hlw x hx
    simp only [List.mem_cons, List.not_mem_nil, or_false] at hx
    rcases hx with rfl | rfl
    · intro c hc
      simp at hc; subst hc
      exact .yl (by simp; omega)
    · intro c hc
      simp at hc; subst hc
      refine .fn (fun c hc => by cases hc) fun c hc => ?_
      simp only [List.mem_cons, List.not_mem_nil, or_false] at hc
      rcases hc with rfl | rfl | rfl
      · exact (lt_of_closed _ hspc).mono (by omega)
      · exact .bp (by simp; omega)
      · exact .bp (by simp; omega)
  have hc := search_167 id zs spans hzs hb hsp spans [] low [.var [.yl id] false, .var [.fn (.func 167) [] [spP zs spans, .bp low.length 0, .bp (low.length + 1) 0]] false] low' b low.length (low.length + 1) rfl (Nat.zero_le _) h0 (hown low rfl)
    (fun lw h => by rw [← h]; exact app_get0 _ _) (fun lw h => by rw [← h]; exact app_get _ _ 1) h
  have hsl := foldR_same h (hown low rfl)
  have hsl2 : SameLoops low low' := by
    have := foldR_same (own := []) h (fun x hx => by cases hx)
    simpa using this
  refine ⟨.tuple [], ?_, hsl2⟩
  have e1 : pvL [] = .sl .n [] := rfl
  rw [e1] at hc
  refine CallOk.ofB hTT Tryz.func166 rfl rfl ?_ hl' (fun x hx => by have := h0' x hx; rw [hl'] at this; simpa using this) (.tuple (fun c hc => by cases hc))
  have g0 : ∀ B : List Box, (low ++ B)[low.length]? = B[0]? := app_get0 low
  have g1 : ∀ (B : List Box) (n : Nat), (low ++ B)[low.length + n]? = B[n]? := app_get low
  have s0 : ∀ (B : List Box) (x : Box), (low ++ B).set low.length x = low ++ B.set 0 x := app_set0 low
  have s1 : ∀ (B : List Box) (n : Nat) (x : Box), (low ++ B).set (low.length + n) x = low ++ B.set n x := app_set low
  repeat (first | (with_reducible (first | apply wA | apply wB | apply wC | apply wD | apply wE | apply wF | apply wG | apply wH | apply wI | apply wJ | apply wK | apply wL | apply wM | apply wN | apply wO | apply wP | apply wQ rfl | apply wR | apply wS | apply wT | apply wU)) | ((with_reducible (first | apply wV | apply wW | apply wX | (apply wY [] hTT (cfOne_ok cf0_ok (ent Tryz.func167 rfl) hc hsl) noM_ok mixed; (focus kernel_rfl)))); (focus (simp only [Tryz.f166, g0, g1, s0, s1, cfOne, notYield, go_sem]; with_reducible rfl))) | (with_reducible refine wZ hTT (cfOne_ok cf0_ok (ent Tryz.func167 rfl) hc hsl) noM_ok ?_) | (with_reducible refine wa ?_; refine And.intro ?_ ?_; (focus kernel_rfl)))
  refine ⟨rfl, ?_, rfl, _, rfl⟩
  exact hsl2.app _ rfl
end Go.Pv
namespace Go.Pv
open Go Go.RowKit Go.Proofs
set_option maxRecDepth 10000
set_option maxHeartbeats 4000000
theorem cpv_nilf : cpv .nilFunc = some .nilf := rfl
attribute [go_sem] cpv_nilf
theorem closedL_sp (l : List (Int × Int)) : closedL (l.map spE) = true := closedL_map (fun _ => rfl) l
theorem frz_fn (f : Fn) (z : Z) (l : List (Int × Int)) : leaveC0 0 (.fn f [] [.bp 0 0]) [.var [.sl z (l.map spE)] false] = (.fn f [] [.ip [.sl z (l.map spE)]], []) := by
  have hc := closedL_sp l
  refine leaveF ?_ (by simp [PV.closed, closedL, hc])
  have h1 : (PV.fn f [] [.bp 0 0]).closed = false := rfl
  have h2 : (PV.bp 0 0).closed = false := rfl
  unfold frzX
  rw [if_neg (by rw [h1]; simp)]
  simp only [frz1, frzC, frzL]
  unfold frzX
  rw [if_neg (by rw [h2]; simp)]
  have h3 : (PV.ip [.sl z (l.map spE)]).closed = true := by simp [PV.closed, closedL, hc]
  simp [frz1, frzC, frzL, frzX, PV.closed, hc]
theorem lists_136 (z : Z) (l : List (Int × Int)) : CallOk Tryz.prog 136 [.sl z (l.map spE)] [] (.ret (.fn (.func 166) [] [spP z l])) [] := by
  refine CallOk.ofF hTT Tryz.func136 rfl rfl ?_
  repeat (first | (with_reducible (first | apply wA | apply wB | apply wC | apply wD | apply wE | apply wF | apply wG | apply wH | apply wI | apply wJ | apply wK | apply wL | apply wM | apply wN | apply wO | apply wP | apply wQ rfl | apply wR | apply wS | apply wT | apply wU)) | ((with_reducible (first | apply wV | apply wW | apply wX | (apply wY [] hTT cf0_ok noM_ok mixed; (focus kernel_rfl)))); (focus (simp only [Tryz.f136, notYield, go_sem]; with_reducible rfl))) | (with_reducible refine wZ hTT cf0_ok noM_ok ?_) | (with_reducible refine wa ?_; refine And.intro ?_ ?_; (focus kernel_rfl)))
  exact ⟨rfl, rfl, _, rfl, frz_fn _ _ _⟩
def decSp : PV → Option (Int × Int)
  | .agg [.int .i64 a, .int .i64 b] => some (a, b)
  | _ => none
theorem decSp_inv (x : PV) (a : Int × Int) (h : decSp x = some a) : x = spE a := by
  unfold decSp at h
  split at h <;> cases h
  rfl
theorem decSps (l : List (Int × Int)) : decL decSp (l.map spE) = some l := decL_map (g := spE) (fun _ => rfl) l
theorem ltBL_sp (m : Nat) (l : List (Int × Int)) : ltBL m (l.map spE) = true := ltBL_map (fun _ => rfl) l
def c136 : List PV → List Box → Option (PRes × List Box)
  | [.sl z es], sg => match decL decSp es with
    | some l => some (.ret (.fn (.func 166) [] [spP z l]), sg)
    | none => none
  | _, _ => none
theorem c136_ok : ConOk Tryz.prog 136 c136 := ConOk.of0 (ent Tryz.func136 rfl) fun args sg r sg' h => by
  unfold c136 at h
  split at h <;> try (cases h; done)
  split at h <;> cases h
  rename_i hl
  obtain rfl := decL_inv decSp_inv hl
  exact ⟨_, rfl, rfl, by rw [ltBL_cons, ltB_sl, ltBL_sp]; rfl, lists_136 _ _⟩
def cfLe : CallF := cfAdd cf0 136 c136
theorem cfLe_ok : CallFOk Tryz.prog cfLe := cfAdd_ok cf0_ok c136_ok
end Go.Pv
