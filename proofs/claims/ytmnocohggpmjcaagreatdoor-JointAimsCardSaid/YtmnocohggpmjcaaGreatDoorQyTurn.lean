/- Contracts: a pose after a turn, the program's and the reference's. -/
import Derived.Test.YtmnocohggpmjcaaGreatDoorQmLists
import Derived.Test.YtmnocohggpmjcaaGreatDoorQlTop
import Derived.Test.YtmnocohggpmjcaaGreatDoorQoFine
set_option linter.all false
namespace Go.Pv
open Go Go.RowKit Go.Proofs
set_option maxRecDepth 10000
set_option maxHeartbeats 4000000
theorem set_ii (l : List Int) (k : Nat) (x : Int) : (l.map ii).set k (ii x) = (l.set k x).map ii := by rw [List.map_set]
def cfXa : CallF := cfAdd cf0 117 (conRow c117)
theorem cfXa_ok : CallFOk Tryz.prog cfXa := cfAdd_ok cf0_ok c117_ok.row
theorem turn_145 (l : List Int) (k by1 x : Int) (hl : l ≠ []) (hs : l.length ≤ 1000) (h0 : 0 ≤ k) (h1 : k < l.length) (hx : l[k.toNat]? = some x) (hb : -1000 ≤ x ∧ x ≤ 1000 ∧ -1000 ≤ by1 ∧ by1 ≤ 1000) :
    CallOk Tryz.prog 145 [.sl .a (l.map ii), .agg [ii k, ii by1]] [] (.ret (.ms 0 l.length)) [.row false 3 1 ((l.set k.toNat (x + by1)).map ii) false] := by
  refine CallOk.ofS hTT Tryz.func145 rfl rfl ?_
  have hdec : decL decI (l.map ii) = some l := decIs l
  have hx' : (l.map ii)[k.toNat]? = some (ii x) := map_get hx
  have e5 : IntKind.i64.wrap (x + by1) = x + by1 := wrap_id (by omega) (by omega)
  have hcl : closedL (l.map ii) = true := closedL_is l
  repeat (first | (with_reducible (first | apply wA | apply wB | apply wC | apply wD | apply wE | apply wF | apply wG | apply wH | apply wI | apply wJ | apply wK | apply wL | apply wM | apply wN | apply wO | apply wP | apply wQ rfl | apply wR | apply wS | apply wT | apply wU)) | ((with_reducible (first | apply wV | apply wW | apply wX | (apply wY [] hTT cfXa_ok noM_ok mixed; (focus kernel_rfl)))); (focus (simp only [Tryz.f145, cfXa, conRow, c117, hdec, hl, hs, hx', h0, h1, e5, hcl, ne_eq, not_false_eq_true, and_self, if_true, ltBL_cons, ltB_isl, List.length_map, go_sem]; with_reducible rfl))) | (with_reducible refine wZ hTT cfXa_ok noM_ok ?_) | (with_reducible refine wa ?_; refine And.intro ?_ ?_; (focus kernel_rfl)))
  refine ⟨rfl, rfl, _, rfl, ?_⟩
  have e1 : setElem (ii x) 0 [PV.int .i64 (x + by1)] = ii (x + by1) := rfl
  rw [e1, set_ii]
  exact leaveC_row rfl (closedL_is _)
theorem Turned_105 (l : List Int) (k by1 x : Int) (hl : l ≠ []) (hs : l.length ≤ 1000) (h0 : 0 ≤ k) (h1 : k < l.length) (hx : l[k.toNat]? = some x) (hb : -1000 ≤ x ∧ x ≤ 1000 ∧ -1000 ≤ by1 ∧ by1 ≤ 1000) :
    CallOk Tryz.prog 105 [.sl .a (l.map ii), .agg [ii k, ii by1]] [] (.ret (.ms 0 l.length)) [.row false 3 1 ((l.set k.toNat (x + by1)).map ii) false] := by
  refine CallOk.ofS hTT Tryz.func105 rfl rfl ?_
  have hx' : (l.map ii)[k.toNat]? = some (ii x) := map_get hx
  have e5 : IntKind.i64.wrap (x + by1) = x + by1 := wrap_id (by omega) (by omega)
  have he : (l.map ii).isEmpty = false := by cases l with
    | nil => exact absurd rfl hl
    | cons a l => rfl
  have r1 : l.length * 8 ≤ 140737488355328 := by omega
  have r2 : l.length ≤ maxLen := by unfold maxLen; omega
  repeat (first | (with_reducible (first | apply wA | apply wB | apply wC | apply wD | apply wE | apply wF | apply wG | apply wH | apply wI | apply wJ | apply wK | apply wL | apply wM | apply wN | apply wO | apply wP | apply wQ rfl | apply wR | apply wS | apply wT | apply wU)) | ((with_reducible (first | apply wV | apply wW | apply wX | (apply wY [] hTT cf0_ok noM_ok mixed; (focus kernel_rfl)))); (focus (simp only [Tryz.f105, he, r1, r2, all_mi, all_t, hx', h0, h1, e5, List.length_map, go_sem]; with_reducible rfl))) | (with_reducible refine wZ hTT cf0_ok noM_ok ?_) | (with_reducible refine wa ?_; refine And.intro ?_ ?_; (focus kernel_rfl)))
  refine ⟨rfl, rfl, _, rfl, ?_⟩
  have e1 : setElem (ii x) 0 [PV.int .i64 (x + by1)] = ii (x + by1) := rfl
  rw [e1, set_ii]
  exact leaveC_row rfl (closedL_is _)
/-- A pose after a turn. -/
def trnG (l : List Int) (t : Int × Int) : List Int := l.set t.1.toNat (l.getD t.1.toNat 0 + t.2)
theorem trn_len (l : List Int) (t : Int × Int) : (trnG l t).length = l.length := List.length_set ..
def trnB (l : List Int) (t : Int × Int) : Bool := decide (l ≠ [] ∧ l.length ≤ 1000 ∧ 0 ≤ t.1 ∧ t.1 < l.length ∧ -1000 ≤ l.getD t.1.toNat 0 ∧ l.getD t.1.toNat 0 ≤ 1000 ∧ -1000 ≤ t.2 ∧ t.2 ≤ 1000)
def c145 : List PV → List Box → Option (PRes × List Box)
  | [.sl .a es, .agg [.int .i64 k, .int .i64 b]], [] => match decL decI es with
    | some l => if trnB l (k, b) = true then some (.ret (.ms 0 l.length), [.row false 3 1 ((trnG l (k, b)).map ii) false]) else none
    | none => none
  | _, _ => none
theorem trn_ok {f : FuncId} (he : Enters Tryz.prog f) (h : ∀ (l : List Int) (k by1 x : Int), l ≠ [] → l.length ≤ 1000 → 0 ≤ k → k < l.length → l[k.toNat]? = some x → (-1000 ≤ x ∧ x ≤ 1000 ∧ -1000 ≤ by1 ∧ by1 ≤ 1000) →
    CallOk Tryz.prog f [.sl .a (l.map ii), .agg [ii k, ii by1]] [] (.ret (.ms 0 l.length)) [.row false 3 1 ((l.set k.toNat (x + by1)).map ii) false]) : ConOk Tryz.prog f c145 := fun args sg r sg' e => by
  unfold c145 at e
  split at e <;> try (cases e; done)
  split at e <;> try (cases e; done)
  rename_i k b _ l hl
  split at e <;> cases e
  rename_i hc
  obtain rfl := decL_inv decI_inv hl
  unfold trnB at hc
  simp only [decide_eq_true_eq] at hc
  obtain ⟨h1, h2, h3, h4, h5⟩ := hc
  have hx : l[k.toNat]? = some (l.getD k.toNat 0) := by
    have : k.toNat < l.length := by omega
    rw [List.getElem?_eq_getElem this, List.getD_eq_getElem?_getD, List.getElem?_eq_getElem this]; rfl
  exact ⟨he, h l k b _ h1 h2 h3 h4 hx h5, sameLoops_of _ _ rfl⟩
theorem c145_ok : ConOk Tryz.prog 145 c145 := trn_ok (ent Tryz.func145 rfl) turn_145
theorem c105_ok : ConOk Tryz.prog 105 c145 := trn_ok (ent Tryz.func105 rfl) Turned_105
end Go.Pv
namespace Go.Pv
open Go Go.RowKit Go.Proofs
set_option maxRecDepth 10000
set_option maxHeartbeats 4000000
/-- A figure on its stage, as defined. -/
structure StOk (s : Int) (z zh zr : Z) (ls : List Lb) (g : Stg) : Prop where
  z : zOk z (ls.map encLb) = true
  h : zOk zh (g.hs.map encFld) = true
  r : zOk zr (g.rs.map ii) = true
  f : figB s ls = true
  g : stgG ls g = true
theorem StOk.len {s : Int} {z zh zr : Z} {ls : List Lb} {g : Stg} (H : StOk s z zh zr ls g) : 1 ≤ ls.length ∧ ls.length ≤ 5 := fig_len H.f
def stB (s : Int) (z zh zr : Z) (ls : List Lb) (g : Stg) : Bool := zOk z (ls.map encLb) && zOk zh (g.hs.map encFld) && zOk zr (g.rs.map ii) && figB s ls && stgG ls g
theorem stB_iff {s : Int} {z zh zr : Z} {ls : List Lb} {g : Stg} : stB s z zh zr ls g = true ↔ StOk s z zh zr ls g := by
  unfold stB
  simp only [Bool.and_eq_true]
  exact ⟨fun ⟨⟨⟨⟨a, b⟩, c⟩, d⟩, e⟩ => ⟨a, b, c, d, e⟩, fun h => ⟨⟨⟨⟨h.z, h.h⟩, h.r⟩, h.f⟩, h.g⟩⟩
theorem fine_97s {s : Int} {z zh zr : Z} {ls : List Lb} {g : Stg} (H : StOk s z zh zr ls g) (zp : Z) (ps : List Int) (hzp : zOk zp (ps.map ii) = true) (hp : poseG ls ps = true) :
    CallOk Tryz.prog 97 [.agg (stgC s z zh zr ls g), .sl zp (ps.map ii)] [] (.ret (.bool (finG s ls g ps))) [] := by
  obtain ⟨h0f, h1f, r0, r1, K⟩ := stgIn (s := s) H.g
  have hzh : zh ≠ .n := fun e => by have := H.h; subst e; rw [K.hs] at this; cases this
  have hzr : zr ≠ .n := fun e => by have := H.r; subst e; rw [K.rs] at this; cases this
  have g0 := ends_get (s := s) H.f hp K.l0
  have g1 := ends_get (s := s) H.f hp K.l1
  have hl := H.len
  have hel : (ends s ls ps).length ≤ maxLen := by rw [ends_ln H.f hp]; unfold maxLen; omega
  have := fine_97 s z zp zh zr ls ps g.e h0f h1f r0 r1 _ _ H.z hzp hzh hzr H.f hp K.l0.1 K.l1.1 g0 g1 hel
  rw [finG_in K]
  have hK : stgC s z zh zr ls g = [ii s, .sl z (ls.map encLb), ii g.e.a, ii g.e.b, ii g.e.c, ii g.e.d, .sl zh [encFld h0f, encFld h1f], .sl zr [ii r0, ii r1]] := by
    unfold stgC; rw [K.hs, K.rs]; rfl
  rw [hK]
  exact this
def c97s : List PV → List Box → Option (PRes × List Box)
  | [.agg cs, p], sg => match decSt cs, decIs1 p with
    | some (s, z, zh, zr, ls, g), some ps => if stB s z zh zr ls g = true ∧ poseG ls ps = true then some (.ret (.bool (finG s ls g ps)), sg) else none
    | _, _ => none
  | _, _ => none
theorem ltB_st (m : Nat) (s : Int) (z zh zr : Z) (ls : List Lb) (g : Stg) : (PV.agg (stgC s z zh zr ls g)).ltB m = true := ltB_of_closed m _ (show (PV.agg (stgC s z zh zr ls g)).closed = true from closed_stgC _ _ _ _ _ _)
theorem c97s_ok : ConOk Tryz.prog 97 c97s := ConOk.of0 (ent Tryz.func97 rfl) fun args sg r sg' h => by
  unfold c97s at h
  split at h <;> try (cases h; done)
  split at h <;> try (cases h; done)
  rename_i h1 h2
  split at h <;> cases h
  rename_i hc
  obtain rfl := decSt_inv h1
  obtain ⟨zp, rfl, hp⟩ := decIs1_inv h2
  exact ⟨_, rfl, rfl, by rw [ltBL_cons, ltB_st, ltBL_cons, ltB_isl]; rfl, fine_97s (stB_iff.1 hc.1) _ _ (zOk_n' hp) hc.2⟩
def candG (n : Nat) : List (Int × Int) := (List.range n).flatMap fun (i : Nat) => [((i : Int), -1), ((i : Int), 1)]
def okT (s : Int) (ls : List Lb) (g : Stg) (l : List Int) (t : Int × Int) : Bool := poseG ls (trnG l t) && finG s ls g (trnG l t)
/-- The turns after which there is a fine pose, each with that pose. -/
def nextG (s : Int) (ls : List Lb) (g : Stg) (l : List Int) : List ((Int × Int) × List Int) := ((candG ls.length).filter (okT s ls g l)).map fun t => (t, trnG l t)
def encT (t : Int × Int) : PV := .agg [ii t.1, ii t.2]
def nxTE (l : List Int) (t : Int × Int) : List PV := [encT t, pvL (trnG l t)]
theorem cand_len (n : Nat) : (candG n).length = 2 * n := by
  unfold candG
  induction n with
  | zero => rfl
  | succ n ih => rw [List.range_succ, List.flatMap_append, List.length_append, ih]; simp; omega
theorem cand_get {n i : Nat} (h : i < n) : (candG n)[2 * i]? = some ((i : Int), -1) ∧ (candG n)[2 * i + 1]? = some ((i : Int), 1) := by
  induction n with
  | zero => omega
  | succ n ih =>
    have hl := cand_len n
    have e : candG (n + 1) = candG n ++ [((n : Int), -1), ((n : Int), 1)] := by unfold candG; rw [List.range_succ, List.flatMap_append]; simp
    rw [e]
    by_cases hi : i = n
    · subst hi
      rw [List.getElem?_append_right (by omega), List.getElem?_append_right (by omega), hl]
      have e1 : 2 * i - 2 * i = 0 := by omega
      have e2 : 2 * i + 1 - 2 * i = 1 := by omega
      rw [e1, e2]
      exact ⟨rfl, rfl⟩
    · rw [List.getElem?_append_left (by omega), List.getElem?_append_left (by omega)]
      exact ih (by omega)
theorem mem_cand {n : Nat} {t : Int × Int} : t ∈ candG n ↔ 0 ≤ t.1 ∧ t.1 < n ∧ (t.2 = -1 ∨ t.2 = 1) := by
  unfold candG
  rw [List.mem_flatMap]
  constructor
  · rintro ⟨i, hi, ht⟩
    have := List.mem_range.1 hi
    simp only [List.mem_cons, List.not_mem_nil, or_false] at ht
    rcases ht with rfl | rfl <;> simp <;> omega
  · rintro ⟨h1, h2, h3⟩
    obtain ⟨a, b⟩ := t
    simp only at h1 h2 h3
    refine ⟨a.toNat, List.mem_range.2 (by omega), ?_⟩
    have e : ((a.toNat : Nat) : Int) = a := by omega
    rw [e]
    rcases h3 with rfl | rfl <;> simp
theorem trnB_pose {ls : List Lb} {l : List Int} {s : Int} (hf : figB s ls = true) (hp : poseG ls l = true) {t : Int × Int} (ht : t ∈ candG ls.length) : trnB l t = true := by
  obtain ⟨h1, h2, h3⟩ := mem_cand.1 ht
  obtain ⟨hll, hlb⟩ := pose_at hp
  have hl := fig_len hf
  have hlt : t.1.toNat < l.length := by omega
  have hlt2 : t.1.toNat < ls.length := by omega
  have hg : l.getD t.1.toNat 0 = l[t.1.toNat] := by rw [List.getD_eq_getElem?_getD, List.getElem?_eq_getElem hlt]; rfl
  have hb := hlb t.1.toNat _ _ (List.getElem?_eq_getElem hlt2) (List.getElem?_eq_getElem hlt)
  obtain ⟨_, _, _, _, hlim⟩ := fig_limbs hf
  have := hlim _ _ (List.getElem?_eq_getElem hlt2)
  simp [lbB, inB] at this
  unfold trnB
  rw [decide_eq_true_eq]
  refine ⟨fun e => (by rw [e] at hlt; cases hlt), by omega, h1, by omega, by omega, by omega, by omega, by omega⟩
theorem frzX_bp {n id : Nat} {sg : List Box} {cs : List PV} {frz : Bool} (h : sg[id]? = some (.var cs frz)) (hc : closedL cs = true) : frzX (some 0) (n + 2) sg (.bp id 0) = (.ip cs, sg.set id (.var cs true)) := by
  unfold frzX
  rw [if_neg (by simp [PV.closed])]
  simp [frz1, h, frzC, frzL_closed (n := n) cs _ hc]
theorem frz_fnv2 (f : Fn) (cs : List PV) (hc : closedL cs = true) (v : PV) (hv : v.closed = true) : leaveC0 0 (.fn f [] [.bp 0 0, .bp 1 0]) [.var cs false, .var [v] false] = (.fn f [] [.ip cs, .ip [v]], []) := by
  refine leaveF ?_ (by simp [PV.closed, closedL, hc, hv])
  have h1 : (PV.fn f [] [.bp 0 0, .bp 1 0]).closed = false := rfl
  have hvl : closedL [v] = true := by simp [closedL, hv]
  unfold frzX
  rw [if_neg (by rw [h1]; simp)]
  simp only [frz1, frzC, frzL]
  rw [frzX_bp (n := 5) (id := 0) (sg := [.var cs false, .var [v] false]) rfl hc]
  dsimp only
  rw [frzX_bp (n := 5) (id := 1) (sg := [Box.var cs false, .var [v] false].set 0 (.var cs true)) rfl hvl]
theorem next_100 (s : Int) (z zh zr zp : Z) (ls : List Lb) (g : Stg) (l : List Int) : CallOk Tryz.prog 100 [.agg (stgC s z zh zr ls g), .sl zp (l.map ii)] [] (.ret (.fn (.func 144) [] [.ip (stgC s z zh zr ls g), .ip [.sl zp (l.map ii)]])) [] := by
  refine CallOk.ofF hTT Tryz.func100 rfl rfl ?_
  repeat (first | (with_reducible (first | apply wA | apply wB | apply wC | apply wD | apply wE | apply wF | apply wG | apply wH | apply wI | apply wJ | apply wK | apply wL | apply wM | apply wN | apply wO | apply wP | apply wQ rfl | apply wR | apply wS | apply wT | apply wU)) | ((with_reducible (first | apply wV | apply wW | apply wX | (apply wY [] hTT cf0_ok noM_ok mixed; (focus kernel_rfl)))); (focus (simp only [Tryz.f100, notYield, go_sem]; with_reducible rfl))) | (with_reducible refine wZ hTT cf0_ok noM_ok ?_) | (with_reducible refine wa ?_; refine And.intro ?_ ?_; (focus kernel_rfl)))
  exact ⟨rfl, rfl, _, rfl, frz_fnv2 _ _ (closed_stgC _ _ _ _ _ _) _ (show (PV.sl zp (l.map ii)).closed = true from closedL_is l)⟩
def c100 : List PV → List Box → Option (PRes × List Box)
  | [.agg cs, .sl zp es], sg => match decSt cs, decL decI es with
    | some (s, z, zh, zr, ls, g), some l => some (.ret (.fn (.func 144) [] [.ip (stgC s z zh zr ls g), .ip [.sl zp (l.map ii)]]), sg)
    | _, _ => none
  | _, _ => none
theorem c100_ok : ConOk Tryz.prog 100 c100 := ConOk.of0 (ent Tryz.func100 rfl) fun args sg r sg' h => by
  unfold c100 at h
  split at h <;> try (cases h; done)
  split at h <;> cases h
  rename_i h1 h2
  obtain rfl := decSt_inv h1
  obtain rfl := decL_inv decI_inv h2
  exact ⟨_, rfl, rfl, by rw [ltBL_cons, ltB_st, ltBL_cons, ltB_isl]; rfl, next_100 _ _ _ _ _ _ _ _⟩
end Go.Pv
namespace Go.Pv
open Go Go.RowKit Go.Proofs
set_option maxRecDepth 10000
set_option maxHeartbeats 4000000
/-- What is still to be yielded. -/
def restN (s : Int) (ls : List Lb) (g : Stg) (l : List Int) (k : Nat) : List (List PV) := (((candG ls.length).drop k).filter (okT s ls g l)).map (nxTE l)
theorem restN_step {s : Int} {ls : List Lb} {g : Stg} {l : List Int} {k : Nat} {t : Int × Int} (h : (candG ls.length)[k]? = some t) : restN s ls g l k = if okT s ls g l t = true then nxTE l t :: restN s ls g l (k + 1) else restN s ls g l (k + 1) := by
  unfold restN
  rw [filter_drop h]
  split <;> rfl
theorem restN_end {s : Int} {ls : List Lb} {g : Stg} {l : List Int} {k : Nat} (h : 2 * ls.length ≤ k) : restN s ls g l k = [] := by
  unfold restN
  rw [List.drop_eq_nil_of_le (by rw [cand_len]; exact h)]
  rfl
theorem restN_all (s : Int) (ls : List Lb) (g : Stg) (l : List Int) : restN s ls g l 0 = (nextG s ls g l).map fun x => [encT x.1, pvL x.2] := by
  unfold restN nextG
  rw [List.drop_zero, List.map_map]
  rfl
def cfXc : CallF := cfAdd (cfAdd (cfAdd cf0 145 (conRow c145)) 86 c86) 97 c97s
theorem cfXc_ok : CallFOk Tryz.prog cfXc := cfAdd_ok (cfAdd_ok (cfAdd_ok cf0_ok c145_ok.row) c86_ok) c97s_ok
abbrev tmN (id n i : Nat) (K : PV) (pz : PV) : List (Nat × PV) := [(13, ii i), (12, ii n), (0, .yl id), (1, K), (2, pz)]
abbrev tmN2 (id n i j : Nat) (K : PV) (pz : PV) (BL : List PV) : List (Nat × PV) := [(17, ii j), (16, .agg BL), (4, ii i), (13, ii i), (12, ii n), (0, .yl id), (1, K), (2, pz)]
theorem next_144 {s : Int} {z zh zr : Z} {ls : List Lb} {g : Stg} (H : StOk s z zh zr ls g) (l : List Int) (hp : poseG ls l = true) :
    IterOk Tryz.prog 144 (fun id => [.yl id, .ip (stgC s z zh zr ls g), .ip [.sl .a (l.map ii)]]) ((nextG s ls g l).map fun x => [encT x.1, pvL x.2]) := by
  intro id low b low' h0 hid h
  rw [← restN_all] at h
  obtain ⟨hl', h0'⟩ := foldR_len h h0
  have hsl2 : SameLoops low low' := by
    have := foldR_same (own := []) h (fun x hx => by cases hx)
    simpa using this
  refine ⟨.tuple [], ?_, hsl2⟩
  refine CallOk.ofB hTT Tryz.func144 rfl rfl ?_ hl' (fun x hx => by have := h0' x hx; rw [hl'] at this; simpa using this) (.tuple (fun c hc => by cases hc))
  have hd := decFig_enc s z ls H.z
  have hdk := decSt_enc s z zh zr ls g
  have hsb : stB s z zh zr ls g = true := stB_iff.2 H
  have hl := H.len
  have hs : ls.length ≤ maxLen := by unfold maxLen; omega
  have hs2 : ls.length ≤ 1000 := by omega
  have hll := (pose_at hp).1
  have hlne : l ≠ [] := fun e => by rw [e] at hll; simp at hll; omega
  have hKc : (PV.ip (stgC s z zh zr ls g)).closed = true := closed_stgC s z zh zr ls g
  have hpc : (PV.ip [.sl .a (l.map ii)]).closed = true := by simp [PV.closed, closedL, closedL_is]
  have hdec : decL decI (l.map ii) = some l := decIs l
  have hcl : closedL (l.map ii) = true := closedL_is l
  repeat (first | (with_reducible (first | apply wA | apply wB | apply wC | apply wD | apply wE | apply wF | apply wG | apply wH | apply wI | apply wJ | apply wK | apply wL | apply wM | apply wN | apply wO | apply wP | apply wQ rfl | apply wR | apply wS | apply wT | apply wU)) | ((with_reducible (first | apply wV | apply wW | apply wX | (apply wY [] hTT cfXc_ok noM_ok mixed; (focus kernel_rfl)))); (focus (simp only [Tryz.f144, notYield, go_sem]; with_reducible rfl))) | (with_reducible refine wZ hTT cfXc_ok noM_ok ?_) | (with_reducible refine wa ?_; refine And.intro ?_ ?_; (focus kernel_rfl)))
  refine RunQ.keep [13, 12, 0, 1, 2] (by simp only [go_sem]; rfl) ?_
  refine RunQ.loop (fun i s' => ∃ lw : List Box, lw.length = low.length ∧ OwnOk 0 lw ∧ SameLoops low lw ∧ FoldR (YR Tryz.prog id) (restN s ls g l (2 * i)) lw b low' ∧ s' = ⟨tmN id ls.length i (.ip (stgC s z zh zr ls g)) (.ip [.sl .a (l.map ii)]), 44, lw⟩)
    ls.length ⟨low, rfl, h0, SameLoops.refl _, h, rfl⟩ ?_
  rintro i _ hi ⟨lw, e1, e2, e3, e4, rfl⟩
  have q0 : ∀ B : List Box, (lw ++ B)[lw.length]? = B[0]? := app_get0 lw
  by_cases hlt : i < ls.length
  · have hlt' : (i : Int) < ls.length := by omega
    obtain ⟨g1, g2⟩ := cand_get hlt
    repeat (first | (with_reducible (first | apply wA | ((fail_if_success (refine RunQ.seq (x := .region 4 _ _) ?_)); (apply wB)) | apply wC | apply wD | apply wE | apply wF | apply wG | apply wH | apply wI | apply wJ | apply wK | apply wL | apply wM | apply wN | apply wO | apply wP | apply wQ rfl | apply wR | apply wS | apply wT | apply wU)) | ((with_reducible (first | apply wV | apply wW | apply wX | (apply wY [] hTT cfXc_ok noM_ok mixed; (focus kernel_rfl)))); (focus (simp only [Tryz.f144, hlt', go_sem]; with_reducible rfl))) | ((fail_if_success (with_reducible show RunQ _ (.region 4 _ _) _ _)); (with_reducible refine wZ hTT cfXc_ok noM_ok ?_)) | (with_reducible refine wa ?_; refine And.intro ?_ ?_; (focus kernel_rfl)))
    refine RunQ.keep [17, 16, 4, 13, 12, 0, 1, 2] (by simp only [go_sem]; rfl) ?_
    generalize hBL : [ii (-1), ii 1] = BL
    have hbl : BL.length = 2 := by rw [← hBL]; rfl
    refine RunQ.loop (fun j s' => ∃ lv : List Box, lv.length = low.length ∧ OwnOk 0 lv ∧ SameLoops low lv ∧ FoldR (YR Tryz.prog id) (restN s ls g l (2 * i + j)) lv b low' ∧ s' = ⟨tmN2 id ls.length i j (.ip (stgC s z zh zr ls g)) (.ip [.sl .a (l.map ii)]) BL, 44, lv⟩)
      2 ⟨lw, e1, e2, e3, e4, rfl⟩ ?_
    rintro j _ hj ⟨lv, v1, v2, v3, v4, rfl⟩
    by_cases hj2 : j < 2
    · have hj2' : (j : Int) < 2 := by omega
      obtain ⟨by1, hby, hcand⟩ : ∃ by1, BL[j]? = some (ii by1) ∧ (candG ls.length)[2 * i + j]? = some ((i : Int), by1) := by
        rw [← hBL]
        rcases (by omega : j = 0 ∨ j = 1) with rfl | rfl
        · exact ⟨-1, rfl, g1⟩
        · exact ⟨1, rfl, g2⟩
      have htb := trnB_pose H.f hp (List.mem_of_getElem? hcand)
      rw [restN_step hcand] at v4
      have p0 : ∀ B : List Box, (lv ++ B)[lv.length]? = B[0]? := app_get0 lv
      have p1 : ∀ (B : List Box) (n : Nat), (lv ++ B)[lv.length + n]? = B[n]? := app_get lv
      have t0 : ∀ (B : List Box) (x : Box), (lv ++ B).set lv.length x = lv ++ B.set 0 x := app_set0 lv
      have t1 : ∀ (B : List Box) (n : Nat) (x : Box), (lv ++ B).set (lv.length + n) x = lv ++ B.set n x := app_set lv
      dsimp only [tmN2]
      have hbc : closedL BL = true := by rw [← hBL]; rfl
      have e4' : IntKind.i64.wrap ((j : Int) + 1) = ((j + 1 : Nat) : Int) := wrap_id (by omega) (by omega)
      have hqz : closedL ((trnG l ((i : Int), by1)).map ii) = true := closedL_is _
      have hql : ((trnG l ((i : Int), by1)).map ii).length = l.length := by rw [List.length_map, trn_len]
      have hqn : trnG l ((i : Int), by1) ≠ [] := fun e => by
        have := trn_len l ((i : Int), by1)
        rw [e] at this
        exact hlne (List.length_eq_zero_iff.1 this.symm)
      have hpv : pvL (trnG l ((i : Int), by1)) = .sl .a ((trnG l ((i : Int), by1)).map ii) := by
        unfold pvL
        cases hh : trnG l ((i : Int), by1) with
        | nil => exact absurd hh hqn
        | cons a r => rfl
      have hdq := decIs1_enc (z := .a) (l := trnG l ((i : Int), by1)) (by cases trnG l ((i : Int), by1) <;> rfl)
      have fin : ∀ (Q : Out → St → Prop) (lv1 B : List Box) (tm : List (Nat × PV)), lv1.length = low.length → OwnOk 0 lv1 → SameLoops low lv1 → FoldR (YR Tryz.prog id) (restN s ls g l (2 * i + (j + 1))) lv1 b low' → noLoops B = true →
          keepN [17, 16, 4, 13, 12, 0, 1, 2] tm = tmN2 id ls.length i (j + 1) (.ip (stgC s z zh zr ls g)) (.ip [.sl .a (l.map ii)]) BL →
          roundQ Tryz.prog (fun j s' => ∃ lv : List Box, lv.length = low.length ∧ OwnOk 0 lv ∧ SameLoops low lv ∧ FoldR (YR Tryz.prog id) (restN s ls g l (2 * i + j)) lv b low' ∧ s' = ⟨tmN2 id ls.length i j (.ip (stgC s z zh zr ls g)) (.ip [.sl .a (l.map ii)]) BL, 44, lv⟩)
            2 j lv.length Q .normal ⟨tm, 44, lv1 ++ B⟩ := by
        intro Q lv1 B tm a1 a2 a3 a4 a5 a6
        refine roundQ.b hj2 (Back.cutP [17, 16, 4, 13, 12, 0, 1, 2] lv1 B rfl (by omega) a6 (fun p hp => ?_) (fun x hx => (by have := a2 x hx; simpa using this)) a5) ⟨lv1, a1, a2, a3, a4, rfl⟩
        simp only [tmN2, List.mem_cons, List.not_mem_nil, or_false] at hp
        rcases hp with rfl | rfl | rfl | rfl | rfl | rfl | rfl | rfl
        · exact .int
        · exact (lt_of_closed (.agg BL) hbc).mono (Nat.zero_le _)
        · exact .int
        · exact .int
        · exact .int
        · exact .yl (by omega)
        · exact (lt_of_closed _ hKc).mono (Nat.zero_le _)
        · exact (lt_of_closed _ hpc).mono (Nat.zero_le _)
      repeat (first | (with_reducible (first | apply wA | ((fail_if_success (refine RunQ.seq (x := .region 8 _ _) ?_)); (apply wB)) | apply wC | apply wD | apply wE | apply wF | apply wG | apply wH | apply wI | apply wJ | apply wK | apply wL | apply wM | apply wN | apply wO | apply wP | apply wQ rfl | apply wR | apply wS | apply wT | apply wU)) | ((with_reducible (first | apply wV | apply wW | apply wX | (apply wY [] hTT cfXc_ok noM_ok mixed; (focus kernel_rfl)))); (focus (simp only [Tryz.f144, hj2', hby, p0, p1, t0, t1, cfXc, conRow, c145, hdec, htb, closedL_is, trn_len, List.length_append, and_self, if_true, ltBL_cons, ltB_isl, List.length_map, go_sem]; with_reducible rfl))) | ((fail_if_success (with_reducible show RunQ _ (.region 8 _ _) _ _)); (with_reducible refine wZ hTT cfXc_ok noM_ok ?_)) | (with_reducible refine wa ?_; refine And.intro ?_ ?_; (focus kernel_rfl)))
      refine RunQ.freeze 8 (lv.length + 1) rfl (p1 _ 1) hql hqz (t1 _ 1 _) rfl ?_
      refine RunQ.keep [8, 7, 17, 16, 4, 13, 12, 0, 1, 2] (by simp only [go_sem]; rfl) ?_
      simp only [List.set_cons_succ, List.set_cons_zero]
      unfold okT nxTE at v4
      rw [hpv] at v4
      generalize trnG l ((i : Int), by1) = q at *
      have hno : (poseG ls q && finG s ls g q) = false → FoldR (YR Tryz.prog id) (restN s ls g l (2 * i + (j + 1))) lv b low' := fun hh => by
        rw [hh] at v4
        exact v4
      cases hq1 : poseG ls q
      · repeat (first | (with_reducible (first | apply wA | apply wB | apply wC | apply wD | apply wE | apply wF | apply wG | apply wH | apply wI | apply wJ | apply wK | apply wL | apply wM | apply wN | apply wO | apply wP | apply wQ rfl | apply wR | apply wS | apply wT | apply wU)) | ((with_reducible (first | apply wV | apply wW | apply wX | (apply wY [] hTT cfXc_ok noM_ok mixed; (focus kernel_rfl)))); (focus (simp only [Tryz.f144, cfXc, c86, hd, hdq, hq1, hs2, e4', go_sem]; with_reducible rfl))) | (with_reducible refine wZ hTT cfXc_ok noM_ok ?_) | (with_reducible refine wa ?_; refine And.intro ?_ ?_; (focus kernel_rfl)))
        refine fin _ lv _ _ v1 v2 v3 (hno (by rw [hq1]; rfl)) ?_ ?_
        · rfl
        · simp only [go_sem]
      cases hq2 : finG s ls g q
      · repeat (first | (with_reducible (first | apply wA | apply wB | apply wC | apply wD | apply wE | apply wF | apply wG | apply wH | apply wI | apply wJ | apply wK | apply wL | apply wM | apply wN | apply wO | apply wP | apply wQ rfl | apply wR | apply wS | apply wT | apply wU)) | ((with_reducible (first | apply wV | apply wW | apply wX | (apply wY [] hTT cfXc_ok noM_ok mixed; (focus kernel_rfl)))); (focus (simp only [Tryz.f144, cfXc, c86, c97s, hd, hdk, hdq, hsb, hq1, hq2, hs2, e4', and_self, if_true, go_sem]; with_reducible rfl))) | (with_reducible refine wZ hTT cfXc_ok noM_ok ?_) | (with_reducible refine wa ?_; refine And.intro ?_ ?_; (focus kernel_rfl)))
        refine fin _ lv _ _ v1 v2 v3 (hno (by rw [hq2, Bool.and_false])) ?_ ?_
        · rfl
        · simp only [go_sem]
      rw [hq1, hq2] at v4
      have v4 : FoldR (YR Tryz.prog id) ([encT ((i : Int), by1), .sl .a (q.map ii)] :: restN s ls g l (2 * i + (j + 1))) lv b low' := v4
      have hen : encT ((i : Int), by1) = .agg [ii i, ii by1] := rfl
      rw [hen] at v4
      have how : OwnOk lv.length [Box.var [ii i, ii by1] false, .row false 3 1 (q.map ii) true] := by
        intro x hx
        refine (boxLt_of (m := 0) ?_).mono (Nat.zero_le _)
        simp only [List.mem_cons, List.not_mem_nil, or_false] at hx
        rcases hx with rfl | rfl
        · rfl
        · exact ltBL_of_closed 0 _ hqz
      cases v4 with
      | stop hy =>
        obtain ⟨hyy, hss⟩ := hy.2.2 _ how
        generalize hSS : lv ++ [Box.var [ii i, ii by1] false, .row false 3 1 (q.map ii) true] = SS at hyy hss ⊢
        have z0 : SS[lv.length]? = some (.var [ii i, ii by1] false) := by rw [← hSS]; exact p0 _
        repeat (first | (with_reducible (first | apply RegQY.nil | apply wB | apply wC | apply wD | apply wE | apply wF | apply wG | apply wH | apply wI | apply wJ | apply wK | apply wL | apply wM | apply wN | apply wO | apply wP | apply wQ rfl | apply wR | apply wS | apply wT | apply wU)) | ((with_reducible (first | apply RegQY.step | apply wW | apply wX | (apply wY [] hTT cfXc_ok noM_ok mixed; (focus kernel_rfl)))); (focus (simp only [Tryz.f144, cfXc, c86, c97s, hd, hdk, hdq, hsb, hq1, hq2, hs2, z0, yfOne, and_self, if_true, go_sem]; with_reducible rfl))) | (with_reducible refine RunQ.regY hTT cfXc_ok (yfOne_ok hyy hss) noM_ok ?_) | (with_reducible refine wa ?_; refine And.intro ?_ ?_; (focus kernel_rfl)))
        exact ⟨rfl, by simpa using hsl2.app [Box.var [ii i, ii by1] false, .row false 3 1 (q.map ii) true] rfl, rfl, _, rfl⟩
      | next hy k =>
        rename_i low1
        obtain ⟨l1, l2⟩ := foldR_len (L := [[.agg [ii i, ii by1], .sl .a (q.map ii)]]) (.next hy (.nil _)) v2
        have l3 := foldR_same (own := []) (L := [[.agg [ii i, ii by1], .sl .a (q.map ii)]]) (.next hy (.nil _)) (fun x hx => by cases hx)
        simp only [List.append_nil] at l3
        obtain ⟨hyy, hss⟩ := hy.2.2 _ how
        generalize hSS : lv ++ [Box.var [ii i, ii by1] false, .row false 3 1 (q.map ii) true] = SS at hyy hss ⊢
        have z0 : SS[lv.length]? = some (.var [ii i, ii by1] false) := by rw [← hSS]; exact p0 _
        repeat (first | (with_reducible (first | apply RegQY.nil | apply wB | apply wC | apply wD | apply wE | apply wF | apply wG | apply wH | apply wI | apply wJ | apply wK | apply wL | apply wM | apply wN | apply wO | apply wP | apply wQ rfl | apply wR | apply wS | apply wT | apply wU)) | ((with_reducible (first | apply RegQY.step | apply wW | apply wX | (apply wY [] hTT cfXc_ok noM_ok mixed; (focus kernel_rfl)))); (focus (simp only [Tryz.f144, cfXc, c86, c97s, hd, hdk, hdq, hsb, hq1, hq2, hs2, z0, yfOne, e4', and_self, if_true, go_sem]; with_reducible rfl))) | (with_reducible refine RunQ.regY hTT cfXc_ok (yfOne_ok hyy hss) noM_ok ?_) | (with_reducible refine wa ?_; refine And.intro ?_ ?_; (focus kernel_rfl)))
        refine fin _ low1 _ _ (by omega) l2 (v3.trans l3) k ?_ ?_
        · rfl
        · simp only [go_sem]
    · have hj2' : ¬ (j : Int) < 2 := by omega
      obtain rfl : j = 2 := by omega
      dsimp only [tmN2]
      have e4' : IntKind.i64.wrap ((i : Int) + 1) = ((i + 1 : Nat) : Int) := wrap_id (by omega) (by omega)
      repeat (first | (with_reducible (first | apply wA | apply wB | apply wC | apply wD | apply wE | apply wF | apply wG | apply wH | apply wI | apply wJ | apply wK | apply wL | apply wM | apply wN | apply wO | apply wP | apply wQ rfl | apply wR | apply wS | apply wT | apply wU)) | ((with_reducible (first | apply wV | apply wW | apply wX | (apply wY [] hTT cfXc_ok noM_ok mixed; (focus kernel_rfl)))); (focus (simp only [Tryz.f144, hj2', e4', go_sem]; with_reducible rfl))) | (with_reducible refine wZ hTT cfXc_ok noM_ok ?_) | (with_reducible refine wa ?_; refine And.intro ?_ ?_; (focus kernel_rfl)))
      refine roundQ.b hlt (Back.keep [13, 12, 0, 1, 2] (by simp only [go_sem])) ⟨lv, v1, v2, v3, v4, rfl⟩
  · have hlt' : ¬ (i : Int) < ls.length := by omega
    rw [restN_end (by omega)] at e4
    cases e4
    dsimp only [tmN]
    repeat (first | (with_reducible (first | apply wA | apply wB | apply wC | apply wD | apply wE | apply wF | apply wG | apply wH | apply wI | apply wJ | apply wK | apply wL | apply wM | apply wN | apply wO | apply wP | apply wQ rfl | apply wR | apply wS | apply wT | apply wU)) | ((with_reducible (first | apply wV | apply wW | apply wX | (apply wY [] hTT cfXc_ok noM_ok mixed; (focus kernel_rfl)))); (focus (simp only [Tryz.f144, hlt', go_sem]; with_reducible rfl))) | (with_reducible refine wZ hTT cfXc_ok noM_ok ?_) | (with_reducible refine wa ?_; refine And.intro ?_ ?_; (focus kernel_rfl)))
    exact ⟨rfl, by simpa using hsl2, rfl, [], by simp⟩
end Go.Pv
