/- What known() is evaluated with: methods, functions that are answered by their contracts. -/
import Derived.Test.YtmnocohggpmjcaaGreatDoorQgEnds
import Derived.Test.YtmnocohggpmjcaaGreatDoorQiText
import Derived.Test.YtmnocohggpmjcaaGreatDoorQdWalk
import Derived.Test.YtmnocohggpmjcaaGreatDoorQhFine
set_option linter.all false
namespace Go.Pv
open Go Go.RowKit Go.Proofs
set_option maxRecDepth 100000
set_option maxHeartbeats 40000000
def meJ : Meth := fun t name => if t = 202 then (if name = "kelir/joint.word" then some 157 else if name = "kelir/joint.numbers" then some 241 else none) else if t = 204 then (if name = "kelir/joint.word" then some 158 else if name = "kelir/joint.numbers" then some 242 else none) else none
theorem meJ_ok : MethOk Tryz.prog meJ := by
  intro t name g v w h
  unfold meJ at h
  split at h
  · rename_i ht
    subst ht
    split at h
    · rename_i hn; subst hn; cases h; kernel_rfl
    · split at h <;> try (cases h; done)
      rename_i hn; subst hn; cases h; kernel_rfl
  · split at h <;> try (cases h; done)
    rename_i ht
    subst ht
    split at h
    · rename_i hn; subst hn; cases h; kernel_rfl
    · split at h <;> try (cases h; done)
      rename_i hn; subst hn; cases h; kernel_rfl
def c93 (cf : CallF) : List PV → List Box → Option (PRes × List Box)
  | [.fn (.func g) fa cap], sg => match cf g (fa ++ ([] ++ cap)) (sg ++ [.var [ii 0] false]) with
    | some (.ret _, sg2) => match sg2[sg.length]? with
      | some (.var [_] false) =>
        let sg3 := sg2.set sg.length (.var [ii 0] false)
        let r := leaveC sg.length (ii 0) sg3
        if sameLoopsC sg r.2 = true then some (.ret r.1, r.2) else none
      | _ => none
    | _ => none
  | _, _ => none
theorem c93_ok {cf : CallF} (hcf : CallFOk Tryz.prog cf) : ConOk Tryz.prog 93 (c93 cf) := fun args sg r sg' h => by
  unfold c93 at h
  split at h <;> try (cases h; done)
  split at h <;> try (cases h; done)
  rename_i g fa cap sg2 hc
  split at h <;> try (cases h; done)
  rename_i hb
  simp only at h
  split at h <;> cases h
  rename_i hsl
  obtain ⟨h1, h2, h3⟩ := hcf _ _ _ _ _ hc
  exact ⟨ent Tryz.func93 rfl, leaveC_ok (try_core h1 h2 h3 hb), sameLoops_of _ _ hsl⟩
def cfK : CallF := cfAdd (cfAdd (cfAdd (cfAdd (cfAdd (cfAdd (cfAdd (cfAdd cfF 134 c134) 170 c170) 143 c143) 87 (conFrz c87)) 99 c99) 152 c152) 153 c153) 154 c154
theorem cfK_ok : CallFOk Tryz.prog cfK := cfAdd_ok (cfAdd_ok (cfAdd_ok (cfAdd_ok (cfAdd_ok (cfAdd_ok (cfAdd_ok (cfAdd_ok cfF_ok c134_ok) c170_ok) c143_ok) c87_ok.frz) c99_ok) c152_ok) c153_ok) c154_ok
def primK : CallF → FuncId → List PV → List Box → Option (Option (PRes × List Box)) := fun cf f args sg =>
  if f = 93 then match c93 cf args sg with
    | some r => some (some r)
    | none => none
  else match cfK f args sg with
    | some r => some (some r)
    | none => none
theorem primK_ok : PrimOk Tryz.prog primK := fun cf hcf f args sg r sg' h => by
  unfold primK at h
  split at h
  · rename_i hf
    subst hf
    split at h <;> cases h
    rename_i h1
    exact c93_ok hcf _ _ _ _ h1
  · split at h <;> cases h
    rename_i h1
    exact cfK_ok _ _ _ _ _ h1
end Go.Pv
namespace Go.Pv
open Go Go.RowKit Go.Proofs
set_option maxRecDepth 10000
set_option maxHeartbeats 4000000
abbrev K5 := Int × Int × Int × Int × Int
def encK (k : K5) : PV := .agg [ii k.1, ii k.2.1, ii k.2.2.1, ii k.2.2.2.1, ii k.2.2.2.2]
def decK : PV → Option K5
  | .agg [.int .i64 a, .int .i64 b, .int .i64 c, .int .i64 d, .int .i64 e] => some (a, b, c, d, e)
  | _ => none
theorem decK_inv (x : PV) (k : K5) (h : decK x = some k) : x = encK k := by
  unfold decK at h
  split at h <;> cases h
  rfl
theorem eqK (a b : K5) : eqT (TT 148) (encK a) (encK b) = some (decide (a = b)) := by
  obtain ⟨a1, a2, a3, a4, a5⟩ := a
  obtain ⟨b1, b2, b3, b4, b5⟩ := b
  have e : eqT (TT 148) (encK (a1, a2, a3, a4, a5)) (encK (b1, b2, b3, b4, b5)) = some (a1 == b1 && (a2 == b2 && (a3 == b3 && (a4 == b4 && (a5 == b5 && true))))) := by kernel_rfl
  rw [e]
  congr 1
  rw [Bool.eq_iff_iff]
  simp [Prod.ext_iff]
theorem find_not {k : K5} : ∀ (B : List K5) (j : Nat), k ∉ B → findC (TT 148) (encK k) (B.map encK) j = some none
  | [], _, _ => rfl
  | b :: B, j, h => by
    have h1 : ¬ k = b := fun e => h (e ▸ List.mem_cons_self ..)
    have h2 : k ∉ B := fun e => h (List.mem_cons_of_mem _ e)
    show (if (encK b).ag = true then _ else _) = _
    rw [if_pos (show (encK b).ag = true from rfl), eqK, decide_eq_false h1, find_not B (j + 1) h2]
theorem find_in {k : K5} : ∀ (B : List K5) (j : Nat), B.Nodup → k ∈ B → ∃ i, findC (TT 148) (encK k) (B.map encK) j = some (some (j + i)) ∧ i < B.length
  | [], _, _, h => by cases h
  | b :: B, j, hn, h => by
    obtain ⟨n1, n2⟩ := List.nodup_cons.1 hn
    show ∃ i, (if (encK b).ag = true then _ else _) = _ ∧ _
    rw [if_pos (show (encK b).ag = true from rfl), eqK]
    by_cases hb : k = b
    · subst hb
      rw [decide_eq_true rfl, find_not B (j + 1) n1]
      exact ⟨0, rfl, by simp⟩
    · have hk : k ∈ B := by
        rcases List.mem_cons.1 h with h | h
        · exact absurd h hb
        · exact h
      obtain ⟨i, e1, e2⟩ := find_in B (j + 1) n2 hk
      rw [decide_eq_false hb, e1]
      exact ⟨i + 1, by simp; omega, by simp; omega⟩
def mkO (m : Nat → TypeId × String × Array Edge) (i : Nat) (d : Option Nat) (op : Op) : Oper := { dst := d, op, type := (m i).1, pos := (m i).2.1, after := (m i).2.2, guard := none }
def ops11 (m : Nat → TypeId × String × Array Edge) : List Oper := [mkO m 0 (some 37) (.next (.tmp 36) false), mkO m 1 (some 38) (.extract (.tmp 37) 0)]
def ops12 (m : Nat → TypeId × String × Array Edge) : List Oper := [mkO m 2 (some 39) (.entry (.tmp 36)), mkO m 3 (some 40) (.extract (.tmp 39) 0), mkO m 4 (some 10) (.alloc 148), mkO m 5 none (.store 148 (.tmp 10) (.tmp 40))]
def ops13 (m : Nat → TypeId × String × Array Edge) : List Oper := [mkO m 6 (some 41) (.load 162 (.tmp 7)), mkO m 7 (some 42) (.load 148 (.tmp 10)), mkO m 8 none (.mapUpdate 162 (.tmp 41) (.tmp 42) (.const (.bool true)))]
theorem seg12 {m : Nat → TypeId × String × Array Edge} {tm0 : List (Nat × PV)} {n it : Nat} {sg : List Box} {k : K5} {v : PV} (hn : 42 < n) (h10 : hasT tm0 10 = false) (h40 : hasT tm0 40 = false) :
    evOpsL noM cf0 noY TT (ops12 m).toArray [mkO m 3 (some 40) (.extract (.tmp 39) 0), mkO m 4 (some 10) (.alloc 148), mkO m 5 none (.store 148 (.tmp 10) (.tmp 40))] ⟨(39, .tuple [encK k, v]) :: tm0, n, sg⟩ =
      some (.normal, ⟨(10, .bp sg.length 0) :: (40, encK k) :: (39, .tuple [encK k, v]) :: tm0, n, sg ++ [.var [ii k.1, ii k.2.1, ii k.2.2.1, ii k.2.2.2.1, ii k.2.2.2.2] false]⟩) := by
  have l40 : Nat.blt 40 n = true := by simp; omega
  have l10 : Nat.blt 10 n = true := by simp; omega
  simp only [evOpsL, mkO, encK, l40, l10, h10, h40, set_last, get_last, go_sem]
theorem seg13 {m : Nat → TypeId × String × Array Edge} {tm0 : List (Nat × PV)} {n it id b7 idt : Nat} {sg : List Box} {k : K5} {B B' : List K5} (hn : 42 < n) (h10 : getT tm0 10 = some (.bp id 0)) (h7 : getT tm0 7 = some (.bp b7 0)) (h41 : hasT tm0 41 = false) (h42 : hasT tm0 42 = false)
    (hid : sg[id]? = some (.var [ii k.1, ii k.2.1, ii k.2.2.1, ii k.2.2.2.1, ii k.2.2.2.2] false)) {f7 : Bool} (hb7 : sg[b7]? = some (.var [.mp idt] f7)) (hbt : sg[idt]? = some (.map (B.map encK) (B.map fun _ => .bool true) false)) (hB : B.Nodup) (hB' : B' = if k ∈ B then B else B ++ [k]) :
    evOpsL noM cf0 noY TT (ops13 m).toArray (ops13 m) ⟨tm0, n, sg⟩ =
      some (.normal, ⟨(42, encK k) :: (41, .mp idt) :: tm0, n, sg.set idt (.map (B'.map encK) (B'.map fun _ => .bool true) false)⟩) := by
  have l41 : Nat.blt 41 n = true := by simp; omega
  have l42 : Nat.blt 42 n = true := by simp; omega
  have hko : keyOkC ⟨5, 40, [.int .i64 0, .int .i64 0, .int .i64 0, .int .i64 0, .int .i64 0], .array 5 3, some [.i .i64, .i .i64, .i .i64, .i .i64, .i .i64]⟩ (.agg [ii k.1, ii k.2.1, ii k.2.2.1, ii k.2.2.2.1, ii k.2.2.2.2]) = true := by kernel_rfl
  by_cases hk : k ∈ B
  · rw [if_pos hk] at hB'
    rw [hB']
    clear hB'
    obtain ⟨i, e1, e2⟩ := find_in B 0 hB hk
    have hset : (B.map fun _ => PV.bool true).set i (.bool true) = B.map fun _ => PV.bool true := by
      apply List.ext_getElem?
      intro j
      by_cases hj : i = j
      · subst hj
        rw [List.getElem?_set_self (by simpa using e2)]
        simp [List.getElem?_eq_getElem e2]
      · rw [List.getElem?_set_ne hj]
    have e1' : findC ⟨5, 40, [.int .i64 0, .int .i64 0, .int .i64 0, .int .i64 0, .int .i64 0], .array 5 3, some [.i .i64, .i .i64, .i .i64, .i .i64, .i .i64]⟩ (.agg [ii k.1, ii k.2.1, ii k.2.2.1, ii k.2.2.2.1, ii k.2.2.2.2]) (B.map encK) 0 = some (some (0 + i)) := e1
    simp only [evOpsL, ops13, mkO, l41, l42, h10, h7, h41, h42, hid, hb7, hbt, mapUpdateC, hko, e1', hset, go_sem]
    rfl
  · rw [if_neg hk] at hB'
    rw [hB']
    clear hB'
    have e1 := find_not B 0 hk
    have e1' : findC ⟨5, 40, [.int .i64 0, .int .i64 0, .int .i64 0, .int .i64 0, .int .i64 0], .array 5 3, some [.i .i64, .i .i64, .i .i64, .i .i64, .i .i64]⟩ (.agg [ii k.1, ii k.2.1, ii k.2.2.1, ii k.2.2.2.1, ii k.2.2.2.2]) (B.map encK) 0 = some none := e1
    simp only [evOpsL, ops13, mkO, l41, l42, h10, h7, h41, h42, hid, hb7, hbt, mapUpdateC, hko, e1', List.map_append, go_sem]
    rfl
theorem seg11 {m : Nat → TypeId × String × Array Edge} {tm0 : List (Nat × PV)} {n : Nat} {sg : List Box} {b : Bool} {vs : List PV} (hn : 42 < n) (h38 : hasT tm0 38 = false) :
    evOpsL noM cf0 noY TT (ops11 m).toArray [mkO m 1 (some 38) (.extract (.tmp 37) 0)] ⟨(37, .tuple (.bool b :: vs)) :: tm0, n, sg⟩ = some (.normal, ⟨(38, .bool b) :: (37, .tuple (.bool b :: vs)) :: tm0, n, sg⟩) := by
  have l38 : Nat.blt 38 n = true := by simp; omega
  simp only [evOpsL, mkO, l38, h38, go_sem]
end Go.Pv
namespace Go.Pv
open Go Go.RowKit Go.Proofs
set_option maxRecDepth 10000
set_option maxHeartbeats 4000000
theorem wpOps_rawR {P : Program} {r : Option Nat} {ops : Array Oper} {i m : Nat} {rest : List Nat} {o : Oper} {a : Act} {w w' : World} {u : Value} {Q : Exit → Act → World → Prop} (hi : ops[i]? = some o) (hg : o.guard = none) (hnd : ∀ c, o.op ≠ .defer c)
    (hrun : (execOp a.eval o).run P w = .ok (.value u) w') (k : wpOpsIn (FW r) m P ops Q rest (a.put o.dst u) w') : wpOpsIn (FW r) m P ops Q (i :: rest) a w := by
  have hwt : Region.wanted o (yielded ops a.tmps) = true := by unfold Region.wanted; rw [hg]
  simp only [wpOpsIn, hi, hwt, if_true]
  refine ⟨fun f _ => trivial, ?_⟩
  have hsem : o.semAt (FW r).round a.eval = execOp a.eval o := Oper.semAt_eq _ _ _ hnd
  rw [hsem, hrun]
  exact k
def roundU (m : Nat → TypeId × String × Array Edge) : Code := .seq (.region 11 (ops11 m).toArray false) (.seq (.cond (.tmp 38) .skip (.exit 2)) (.block 3 (.seq (.region 12 (ops12 m).toArray false) (.region 13 (ops13 m).toArray false))))
/-- The iterator of the map that lies in block g. -/
def itP (g since : Nat) (seen : Array Nat) (c0 : Nat) : Obj → Prop := fun o => o = .mapIter (some g) since seen c0
def SL (tm0 : List (Nat × PV)) (n : Nat) (sg : List Box) (idt g since : Nat) (B : List K5) (seen : Array Nat) (c0 : Nat) : St :=
  ⟨(36, .bp sg.length 0) :: tm0, n, sg.set idt (.map (B.map encK) (B.map fun _ => .bool true) false) ++ [.ext (itP g since seen c0)]⟩
def nextB (A L : List K5) : List K5 := A ++ L.filter fun k => !A.contains k
/-- Behind a step the iterator has turned. -/
theorem it_turn {G : Gh} {sg : List Box} {w : World} {id gi : Nat} {p : Obj → Prop} (hR : Rel G sg w) (hs : G.rho[id]? = some (.blk gi)) (hb : sg[id]? = some (.ext p)) {o : Obj} {p' : Obj → Prop} (ho : p' o) (hd : ∀ d, o ≠ .deferred d) :
    Rel G (sg.set id (.ext p')) (w.putObj gi o) := by
  have hok := hR.box id _ _ hs hb
  obtain ⟨hB, ⟨o0, hh, hp0, hnd⟩, hS, hSM⟩ := hok
  have hlt := lt_of_heap hh
  have hset := setSlot_same hs
  have hokn : BoxOk G (w.putObj gi o) (.blk gi) (.ext p') := ⟨hB, ⟨o, World.putObj_heap_same hlt, ho, hd⟩, hS, hSM⟩
  rw [← hset] at hokn ⊢
  refine hR.change hs (Slot.le_refl _) (grownBy_putObj' w gi o) (fun g' e => .inl e) (fun g' e => by cases e; exact hB) (fun g' e o v hv => ?_) (fun g' e es' c' hM => ?_) (fun g' e => dfr_ne hR hs hb e) hokn
  · cases e
    rw [hS] at hv; cases hv
  · cases e
    rw [hSM] at hM; cases hM
section
variable {m : Nat → TypeId × String × Array Edge} {tm0 : List (Nat × PV)} {n b7 idt g since : Nat} {sg : List Box} {f7 : Bool}
theorem SL_len (B : List K5) (seen : Array Nat) (c0 : Nat) : (SL tm0 n sg idt g since B seen c0).sg.length = sg.length + 1 := by simp [SL]
theorem SL_it (B : List K5) (seen : Array Nat) (c0 : Nat) : (SL tm0 n sg idt g since B seen c0).sg[sg.length]? = some (.ext (itP g since seen c0)) := by simp [SL]
/-- What a round leads to, the step ahead: k comes. -/
theorem round_on (hn : 42 < n) (hno : ∀ t ∈ [10, 36, 37, 38, 39, 40, 41, 42], hasT tm0 t = false) (h7 : getT tm0 7 = some (.bp b7 0)) (hb7 : sg[b7]? = some (.var [.mp idt] f7)) {z : Box} (hbt : sg[idt]? = some z) (hne : b7 ≠ idt)
    {B B' : List K5} {k : K5} {v : PV} {seen : Array Nat} {c0 : Nat} (hB : B.Nodup) (hB' : B' = if k ∈ B then B else B ++ [k]) :
    evOpsL noM cf0 noY TT (ops13 m).toArray (ops13 m) ⟨(10, .bp (sg.length + 1) 0) :: (40, encK k) :: (39, .tuple [encK k, v]) :: (38, .bool true) :: (37, .tuple [.bool true, encK k, v]) :: (SL tm0 n sg idt g since B seen c0).tm, n, (SL tm0 n sg idt g since B seen c0).sg ++ [.var [ii k.1, ii k.2.1, ii k.2.2.1, ii k.2.2.2.1, ii k.2.2.2.2] false]⟩ =
      some (.normal, ⟨(42, encK k) :: (41, .mp idt) :: (10, .bp (sg.length + 1) 0) :: (40, encK k) :: (39, .tuple [encK k, v]) :: (38, .bool true) :: (37, .tuple [.bool true, encK k, v]) :: (SL tm0 n sg idt g since B seen c0).tm, n,
        (SL tm0 n sg idt g since B' seen c0).sg ++ [.var [ii k.1, ii k.2.1, ii k.2.2.1, ii k.2.2.2.1, ii k.2.2.2.2] false]⟩) := by
  have lt7 : b7 < sg.length := (List.getElem?_eq_some_iff.1 hb7).1
  have ltt : idt < sg.length := (List.getElem?_eq_some_iff.1 hbt).1
  have := seg13 (m := m) (n := n) (id := sg.length + 1) (b7 := b7) (idt := idt) (f7 := f7) (k := k) (B := B) (B' := B') (it := 0)
    (tm0 := (10, .bp (sg.length + 1) 0) :: (40, encK k) :: (39, .tuple [encK k, v]) :: (38, .bool true) :: (37, .tuple [.bool true, encK k, v]) :: (SL tm0 n sg idt g since B seen c0).tm)
    (sg := (SL tm0 n sg idt g since B seen c0).sg ++ [.var [ii k.1, ii k.2.1, ii k.2.2.1, ii k.2.2.2.1, ii k.2.2.2.2] false]) hn rfl h7
    (by show hasT (_ :: _ :: _ :: _ :: _ :: _ :: tm0) 41 = false; simp [hasT, hno 41 (by simp)]) (by show hasT (_ :: _ :: _ :: _ :: _ :: _ :: tm0) 42 = false; simp [hasT, hno 42 (by simp)])
    (by have := SL_len (tm0 := tm0) (n := n) (sg := sg) (idt := idt) (g := g) (since := since) B seen c0
        rw [List.getElem?_append_right (by omega), this]; simp)
    (by rw [List.getElem?_append_left (by rw [SL_len]; omega)]
        show (sg.set idt _ ++ _)[b7]? = _
        rw [List.getElem?_append_left (by simpa using lt7), List.getElem?_set_ne (Ne.symm hne)]; exact hb7)
    (by rw [List.getElem?_append_left (by rw [SL_len]; omega)]
        show (sg.set idt _ ++ _)[idt]? = _
        rw [List.getElem?_append_left (by simpa using ltt), List.getElem?_set_self ltt]) hB hB'
  rw [this]
  congr 4
  show (sg.set idt _ ++ _ ++ _).set idt _ = sg.set idt _ ++ _ ++ _
  rw [List.append_assoc, List.set_append_left _ _ (by simpa using ltt), List.set_set, List.append_assoc]
theorem round_cut (hn : 42 < n) (hno : ∀ t ∈ [10, 36, 37, 38, 39, 40, 41, 42], hasT tm0 t = false) {k : K5} {v : PV} {seen : Array Nat} {c0 : Nat} {B : List K5} :
    evOpsL noM cf0 noY TT (ops12 m).toArray [mkO m 3 (some 40) (.extract (.tmp 39) 0), mkO m 4 (some 10) (.alloc 148), mkO m 5 none (.store 148 (.tmp 10) (.tmp 40))] ⟨(39, .tuple [encK k, v]) :: (38, .bool true) :: (37, .tuple [.bool true, encK k, v]) :: (SL tm0 n sg idt g since B seen c0).tm, n, (SL tm0 n sg idt g since B seen c0).sg⟩ =
      some (.normal, ⟨(10, .bp (sg.length + 1) 0) :: (40, encK k) :: (39, .tuple [encK k, v]) :: (38, .bool true) :: (37, .tuple [.bool true, encK k, v]) :: (SL tm0 n sg idt g since B seen c0).tm, n, (SL tm0 n sg idt g since B seen c0).sg ++ [.var [ii k.1, ii k.2.1, ii k.2.2.1, ii k.2.2.2.1, ii k.2.2.2.2] false]⟩) := by
  have := seg12 (m := m) (n := n) (k := k) (v := v) (it := 0) (tm0 := (38, .bool true) :: (37, .tuple [.bool true, encK k, v]) :: (SL tm0 n sg idt g since B seen c0).tm) (sg := (SL tm0 n sg idt g since B seen c0).sg) hn
    (by show hasT (_ :: _ :: _ :: tm0) 10 = false; simp [hasT, hno 10 (by simp)]) (by show hasT (_ :: _ :: _ :: tm0) 40 = false; simp [hasT, hno 40 (by simp)])
  rw [SL_len] at this
  exact this
/-- What is known of the map that is gone through: its block, its entries, their keys. -/
structure Goes (G0 : Gh) (g : Nat) (es : Array MapEntry) (c : Nat) (ls : List MapEntry) (M : List K5) (vs : List PV) : Prop where
  sm : G0.SM g = some (es, c)
  perm : ls.Perm es.toList
  lk : M.length = ls.length
  lv : vs.length = ls.length
  rk : ∀ (j : Nat) (e : MapEntry) (k : K5), ls[j]? = some e → M[j]? = some k → Rep G0 (encK k) e.key
  rv : ∀ (j : Nat) (e : MapEntry) (v : PV), ls[j]? = some e → vs[j]? = some v → Rep G0 v e.val
  vb : ∀ v ∈ vs, v.ltB 0 = true
  born : ∀ (i j : Nat) (e e' : MapEntry), es[i]? = some e → es[j]? = some e' → i < j → e.born < e'.born
  old : ∀ (i : Nat) (e : MapEntry), es[i]? = some e → e.born < c
  nd : M.Nodup
/-- At the head of a round: L are the keys that have come. -/
def InvU (tm0 : List (Nat × PV)) (n : Nat) (sg : List Box) (idt g : Nat) (es : Array MapEntry) (c : Nat) (ls : List MapEntry) (M A : List K5) (G0 : Gh) (r : Option Nat) (db : DB) (cnt : Nat) (a : Act) (w : World) : Prop :=
  ∃ (G : Gh) (seen : Array Nat) (c0 : Nat) (L : List K5), RelS G (SL tm0 n sg idt g c (nextB A L) seen c0) a w r db ∧ Gh.leM sg.length G0 G ∧ G.SM g = some (es, c) ∧ (leftOf es seen).size = cnt ∧ c ≤ c0 ∧ L.Nodup ∧ (∀ k ∈ L, k ∈ M) ∧
    ∀ (j : Nat) (e : MapEntry) (k : K5), ls[j]? = some e → M[j]? = some k → (seen.contains e.born = true ↔ k ∈ L)
theorem leM_rep {G0 G : Gh} {mm : Nat} (h : Gh.leM mm G0 G) {v : PV} {u : Value} (hr : Rep G0 v u) (hl : v.ltB 0 = true) : Rep G v u := Rep.monoM (m := 0) ⟨h.w0, h.S, h.SM, h.old, h.oldM, fun id s hid => absurd hid (by omega)⟩ hr (lt_of_ltB 0 v hl)
theorem hasT_get : ∀ {tm : List (Nat × PV)} {t : Nat} {v : PV}, getT tm t = some v → hasT tm t = true
  | [], t, v, h => by cases h
  | (a, x) :: tm, t, v, h => by
    unfold getT at h
    unfold hasT
    split at h
    · rename_i ha; subst ha; simp
    · rw [hasT_get h]; simp
theorem putT_new {tm : List (Nat × PV)} {t : Nat} (h : hasT tm t = false) (v : PV) : putT tm t v = (t, v) :: tm := by unfold putT; rw [h]; rfl
theorem Goes.inj {G0 : Gh} {es : Array MapEntry} {c : Nat} {ls : List MapEntry} {M : List K5} {vs : List PV} (h : Goes G0 g es c ls M vs) : (es.toList.map (·.born)).Nodup := by
  unfold List.Nodup
  rw [List.pairwise_iff_getElem]
  intro i j hi hj hij e
  simp only [List.length_map, Array.length_toList] at hi hj
  have := h.born i j es[i] es[j] (Array.getElem?_eq_getElem hi) (Array.getElem?_eq_getElem hj) hij
  simp at e
  omega
theorem SL_at {B : List K5} {seen seen' : Array Nat} {c0 c0' : Nat} {id : Nat} (hid : id ≠ sg.length) : (SL tm0 n sg idt g since B seen c0).sg[id]? = (SL tm0 n sg idt g since B seen' c0').sg[id]? := by
  by_cases h : id < sg.length
  · show (sg.set idt _ ++ _)[id]? = (sg.set idt _ ++ _)[id]?
    rw [List.getElem?_append_left (by simpa using h), List.getElem?_append_left (by simpa using h)]
  · rw [List.getElem?_eq_none (by rw [SL_len]; omega), List.getElem?_eq_none (by rw [SL_len]; omega)]
theorem SL_turn {B : List K5} {seen seen' : Array Nat} {c0 c0' : Nat} : (SL tm0 n sg idt g since B seen c0).sg.set sg.length (.ext (itP g since seen' c0')) = (SL tm0 n sg idt g since B seen' c0').sg := by
  show (sg.set idt _ ++ _).set sg.length _ = sg.set idt _ ++ _
  rw [List.set_append_right _ _ (by simp)]
  simp
/-- The iterator, at any state that has it. -/
theorem it_at {G : Gh} {st : St} {a : Act} {w : World} {r : Option Nat} {db : DB} (hs : RelS G st a w r db) {id : Nat} {p : Obj → Prop} (h36 : getT st.tm 36 = some (.bp id 0)) (hb : st.sg[id]? = some (.ext p)) :
    ∃ gi o, a.eval (.tmp 36) = .pointer (some ⟨gi, 0, none⟩) ∧ G.rho[id]? = some (.blk gi) ∧ w.heap[gi]? = some o ∧ p o := by
  obtain ⟨x, hx, hr⟩ := hs.tm 36 _ h36
  obtain ⟨gi, rfl, hrho⟩ : ∃ gi, x = .pointer (some ⟨gi, 0, none⟩) ∧ G.rho[id]? = some (.blk gi) := by cases hr; exact ⟨_, rfl, ‹_›⟩
  obtain ⟨_, ⟨o, h1, h2, _⟩, _⟩ := hs.rel.box id _ _ hrho hb
  exact ⟨gi, o, by simp [Act.eval, Array.getD_eq_getD_getElem?, hx], hrho, h1, h2⟩
theorem nextB_add {A L : List K5} {k : K5} (hk : k ∉ L) : nextB A (L ++ [k]) = if k ∈ nextB A L then nextB A L else nextB A L ++ [k] := by
  unfold nextB
  rw [List.filter_append]
  by_cases hA : k ∈ A
  · rw [if_pos (List.mem_append_left _ hA)]
    simp [hA]
  · rw [if_neg (by
      intro h
      rcases List.mem_append.1 h with h | h
      · exact hA h
      · exact hk (List.mem_filter.1 h).1)]
    simp [hA]
theorem nextB_nodup {A L : List K5} (hA : A.Nodup) (hL : L.Nodup) : (nextB A L).Nodup := by
  unfold nextB
  rw [List.nodup_append]
  refine ⟨hA, hL.filter _, fun a ha b hb e => ?_⟩
  subst e
  have := (List.mem_filter.1 hb).2
  simp [ha] at this
end
section
variable {m : Nat → TypeId × String × Array Edge} {tm0 : List (Nat × PV)} {n b7 idt g : Nat} {sg : List Box} {f7 : Bool}
theorem boxLt_mono {a b : Nat} (hab : a ≤ b) {x : Box} (h : x.Lt a) : x.Lt b := by
  cases x <;> simp only [Box.Lt] at h ⊢
  · exact fun c hc => Lt.mono hab (h c hc)
  · exact fun c hc => Lt.mono hab (h c hc)
  · exact ⟨fun c hc => Lt.mono hab (h.1 c hc), fun c hc => Lt.mono hab (h.2 c hc)⟩
  · exact fun t v e => Lt.mono hab (h t v e)
theorem encK_lt (k : K5) (a : Nat) : Lt a (encK k) := lt_of_ltB a _ rfl
theorem keys_lt (B : List K5) (a : Nat) : (Box.map (B.map encK) (B.map fun _ => .bool true) false).Lt a := by
  refine ⟨fun c hc => ?_, fun c hc => ?_⟩
  · obtain ⟨k, _, rfl⟩ := List.mem_map.1 hc
    exact encK_lt k a
  · obtain ⟨k, _, rfl⟩ := List.mem_map.1 hc
    exact lt_of_ltB a _ rfl
theorem SL_lt {B : List K5} {seen : Array Nat} {c0 since : Nat} (hbx : ∀ b ∈ sg, b.Lt sg.length) : ∀ b ∈ (SL tm0 n sg idt g since B seen c0).sg, b.Lt (sg.length + 1) := by
  intro b hb
  rcases List.mem_append.1 hb with hb | hb
  · rcases List.mem_or_eq_of_mem_set hb with hb | rfl
    · exact boxLt_mono (by omega) (hbx b hb)
    · exact keys_lt B _
  · simp at hb; subst hb; trivial
/-- The end of a round: what it made is forgotten. -/
theorem round_end {G : Gh} {r : Option Nat} {db : DB} {a : Act} {w : World} {B : List K5} {seen : Array Nat} {c0 since : Nat} {x : Box} {tm : List (Nat × PV)} (hs : RelS G ⟨tm, n, (SL tm0 n sg idt g since B seen c0).sg ++ [x]⟩ a w r db)
    (hsub : ∀ t v, getT (SL tm0 n sg idt g since B seen c0).tm t = some v → getT tm t = some v) (htl : ∀ t v, getT tm0 t = some v → Lt sg.length v) (hbx : ∀ b ∈ sg, b.Lt sg.length) (hx : ∀ lr, x ≠ .loop lr) :
    ∃ G', RelS G' (SL tm0 n sg idt g since B seen c0) a w r db ∧ Gh.leM (sg.length + 1) G G' := by
  have hlen := SL_len (tm0 := tm0) (n := n) (sg := sg) (idt := idt) (g := g) (since := since) B seen c0
  have htake : ((SL tm0 n sg idt g since B seen c0).sg ++ [x]).take (sg.length + 1) = (SL tm0 n sg idt g since B seen c0).sg := by
    rw [← hlen, List.take_left]
  have hblt : ∀ b ∈ (SL tm0 n sg idt g since B seen c0).sg, b.Lt (sg.length + 1) := SL_lt hbx
  obtain ⟨hR, hl⟩ := cut_rel hs.rel (sg.length + 1) (by rw [htake]; exact hblt)
  rw [htake] at hR
  refine ⟨_, ⟨hR, fun t v e => ?_, hs.n, hs.dfr, fun l hl' => ?_⟩, hl⟩
  · obtain ⟨y, hy, hr⟩ := hs.tm t v (hsub t v e)
    refine ⟨y, hy, hr.monoM hl ?_⟩
    have e' : (if 36 = t then some (PV.bp sg.length 0) else getT tm0 t) = some v := e
    split at e'
    · cases e'
      exact .bp (by omega)
    · exact Lt.mono (by omega) (htl t v e')
  · obtain ⟨id, d, lr, h1, h2⟩ := hs.rd l hl'
    have h2' : ((SL tm0 n sg idt g since B seen c0).sg ++ [x])[id]? = some (.loop lr) := h2
    have hid : id < sg.length + 1 := by
      apply Classical.byContradiction
      intro hge
      rw [List.getElem?_append_right (by omega), hlen] at h2'
      have := (List.getElem?_eq_some_iff.1 h2').1
      simp at this
      have e0 : id - (sg.length + 1) = 0 := by omega
      rw [e0] at h2'
      simp at h2'
      exact hx lr h2'
    refine ⟨id, d, lr, ?_, ?_⟩
    · show (G.rho.take (sg.length + 1))[id]? = _
      rw [List.getElem?_take, if_pos hid]
      exact h1
    · rw [List.getElem?_append_left (by omega)] at h2'
      exact h2'
theorem fin_ok {G0 G : Gh} {r : Option Nat} {db : DB} {a : Act} {w : World} {A L M : List K5} {seen : Array Nat} {c0 since : Nat} {x : Box} {tm : List (Nat × PV)} (hs : RelS G ⟨tm, n, (SL tm0 n sg idt g since (nextB A L) seen c0).sg⟩ a w r db)
    (hsub : ∀ t v, getT tm0 t = some v → getT tm t = some v) (htl : ∀ t v, getT tm0 t = some v → Lt sg.length v) (hbx : ∀ b ∈ sg, b.Lt sg.length) (hbt : sg[idt]? = some x) (hp : L.Perm M) (hl0 : Gh.leM sg.length G0 G) :
    ∃ G', RelS G' ⟨tm0, n, sg.set idt (.map ((nextB A M).map encK) ((nextB A M).map fun _ => .bool true) false)⟩ a w r db ∧ Gh.leM sg.length G0 G' := by
  have ltt : idt < sg.length := (List.getElem?_eq_some_iff.1 hbt).1
  have htake : (SL tm0 n sg idt g since (nextB A L) seen c0).sg.take sg.length = sg.set idt (.map ((nextB A L).map encK) ((nextB A L).map fun _ => .bool true) false) := by
    show (sg.set idt _ ++ _).take sg.length = _
    rw [List.take_append_of_le_length (by simp), List.take_of_length_le (by simp)]
  have hblt : ∀ b ∈ sg.set idt (.map ((nextB A L).map encK) ((nextB A L).map fun _ => .bool true) false), b.Lt sg.length := fun b hb => by
    rcases List.mem_or_eq_of_mem_set hb with hb | rfl
    · exact hbx b hb
    · exact keys_lt _ _
  obtain ⟨hR, hl⟩ := cut_rel hs.rel sg.length (by rw [htake]; exact hblt)
  rw [htake] at hR
  have hR2 := hR.rekey (id := idt) (ks' := (nextB A M).map encK) (List.getElem?_set_self ltt) (fun v hv => by obtain ⟨_, _, rfl⟩ := List.mem_map.1 hv; rfl) (((hp.filter _).append_left A).map encK)
  rw [List.set_set, List.map_map] at hR2
  refine ⟨_, ⟨hR2, fun t v e => ?_, hs.n, hs.dfr, fun l hl' => ?_⟩, hl0.trans hl (Nat.le_refl _)⟩
  · obtain ⟨y, hy, hr⟩ := hs.tm t v (hsub t v e)
    exact ⟨y, hy, hr.monoM hl (htl t v e)⟩
  · obtain ⟨id, d, lr, h1, h2⟩ := hs.rd l hl'
    have h2' : (sg.set idt _ ++ [Box.ext _])[id]? = some (.loop lr) := h2
    have hid : id < sg.length := by
      apply Classical.byContradiction
      intro hge
      rw [List.getElem?_append_right (by simpa using hge)] at h2'
      have := (List.getElem?_eq_some_iff.1 h2').1
      simp at this
      have e0 : id - (sg.set idt (Box.map ((nextB A L).map encK) ((nextB A L).map fun _ => .bool true) false)).length = 0 := by simp; omega
      rw [e0] at h2'
      simp at h2'
    refine ⟨id, d, lr, ?_, ?_⟩
    · show (G.rho.take sg.length)[id]? = _
      rw [List.getElem?_take, if_pos hid]
      exact h1
    · rw [List.getElem?_append_left (by simpa using hid)] at h2'
      by_cases hi : idt = id
      · subst hi
        rw [List.getElem?_set_self ltt] at h2'
        cases h2'
      · rw [List.getElem?_set_ne hi] at h2' ⊢
        exact h2'
theorem round_ok (hn : 42 < n) (hno : ∀ t ∈ [10, 36, 37, 38, 39, 40, 41, 42], hasT tm0 t = false) (h7 : getT tm0 7 = some (.bp b7 0)) (hb7 : sg[b7]? = some (.var [.mp idt] f7)) {z : Box} (hbt : sg[idt]? = some z) (hne : b7 ≠ idt)
    (htl : ∀ t v, getT tm0 t = some v → Lt sg.length v) (hbx : ∀ b ∈ sg, b.Lt sg.length) {A : List K5} (hA : A.Nodup)
    {G0 : Gh} {es : Array MapEntry} {c : Nat} {ls : List MapEntry} {M : List K5} {vs : List PV} (hG : Goes G0 g es c ls M vs) {r : Option Nat} {db : DB} {nn : Nat} {Q : Exit → Act → World → Prop}
    (hQ : ∀ a w G, RelS G ⟨tm0, n, sg.set idt (.map ((nextB A M).map encK) ((nextB A M).map fun _ => .bool true) false)⟩ a w r db → Gh.leM sg.length G0 G → Q (.exit 2) a w) :
    ∀ cnt a w, InvU tm0 n sg idt g es c ls M A G0 r db cnt a w → (roundU m).wpIn (FW r) nn Tryz.prog (Exit.then (fun a' w' => ∃ k', k' < cnt ∧ InvU tm0 n sg idt g es c ls M A G0 r db k' a' w') Q) a w := by
  rintro cnt a w ⟨G, seen, c0, L, hs, hl, hsm, hcnt, hc0, hLn, hLM, hLs⟩
  obtain ⟨gi, o, hev, hrho, hh, ho⟩ := it_at hs (id := sg.length) rfl (SL_it (nextB A L) seen c0)
  unfold itP at ho
  subst ho
  have hmap : w.heap[g]? = some (.map es c) := hs.rel.stM _ _ _ hsm
  have hold : ∀ x ∈ es.toList, x.born < c := fun x hx => by
    obtain ⟨i, hi⟩ := List.getElem?_of_mem hx
    exact hG.old i x (by simpa using hi)
  have h36f : hasT tm0 36 = false := hno 36 (by simp)
  have new37 : hasT (SL tm0 n sg idt g c (nextB A L) seen c0).tm 37 = false := by show hasT (_ :: tm0) 37 = false; simp [hasT, hno 37 (by simp)]
  unfold roundU
  refine wpIn_seq (wpIn_region ?_)
  show wpOpsIn _ _ _ _ _ [0, 1] a w
  have hnextop : ∀ (u : Value) (w' : World), (Instr.next (.pointer (some ⟨gi, 0, none⟩)) false (m 0).1).run Tryz.prog w = .ok u w' → (execOp a.eval (mkO m 0 (some 37) (.next (.tmp 36) false))).run Tryz.prog w = .ok (.value u) w' := fun u w' h => by
    show ((do pure (.value (← Instr.next (a.eval (.tmp 36)) false (m 0).1)) : Sem Next).run Tryz.prog w) = _
    rw [hev]
    simp [h]
  have hos : ∀ (j : Nat) (o : Oper), [mkO m 1 (some 38) (.extract (.tmp 37) 0)][j]? = some o → (ops11 m).toArray[1 + j]? = some o := fun j o h => by
    cases j with
    | zero => cases h; rfl
    | succ j => simp at h
  rcases run_next_at (P := Tryz.prog) w (m 0).1 gi g c c0 seen es c hh hmap hold hc0 with ⟨h0, hrun⟩ | ⟨e, he, w1, hal, hrun⟩
  · refine wpOps_rawR rfl rfl (fun c e => by cases e) (hnextop _ _ hrun) ?_
    have hs1 := hs.put (dst := some 37) (fun d e => by cases e; exact Nat.lt_trans (by decide) hn) (v := .tuple [.bool false]) (u := .tuple #[.bool false]) (.tuple rfl fun j c u h1 h2 => by
      match j, h1, h2 with
      | 0, h1, h2 => simp at h1 h2; subst h1; subst h2; exact .bool
      | j + 1, h1, _ => simp at h1)
    have e1 : putD (SL tm0 n sg idt g c (nextB A L) seen c0).tm (some 37) (.tuple [.bool false]) = (37, .tuple [.bool false]) :: (SL tm0 n sg idt g c (nextB A L) seen c0).tm := putT_new new37 _
    rw [e1] at hs1
    have hro := evOpsL_ok (P := Tryz.prog) (ops := (ops11 m).toArray) hTT cf0_ok noY_ok noM_ok _ 1 _ hos (seg11 (m := m) (tm0 := (SL tm0 n sg idt g c (nextB A L) seen c0).tm) (n := n) (sg := (SL tm0 n sg idt g c (nextB A L) seen c0).sg) (b := false) (vs := []) hn (by show hasT (_ :: tm0) 38 = false; simp [hasT, hno 38 (by simp)]))
    refine hro.2 r nn G _ w db _ hs1 fun e a' w' G' he hs2 hl2 => ?_
    obtain rfl := he.normal'
    refine wpIn_seq (wpIn_cond (t := false) (rep_bool (evO_rep hs2.tm rfl)) (wpIn_exit ?_))
    have hperm : L.Perm M := by
      refine (List.perm_ext_iff_of_nodup hLn hG.nd).2 fun k => ⟨hLM k, fun hk => ?_⟩
      obtain ⟨j, hj⟩ := List.getElem?_of_mem hk
      have hjl : j < ls.length := by rw [← hG.lk]; exact (List.getElem?_eq_some_iff.1 hj).1
      exact (hLs j ls[j] k (List.getElem?_eq_getElem hjl) hj).1 (all_seen es seen h0 _ (hG.perm.mem_iff.1 (List.getElem_mem hjl)))
    obtain ⟨G2, f1, f2⟩ := fin_ok (M := M) hs2 (fun t v ht => by
      show getT ((38, _) :: (37, _) :: (36, _) :: tm0) t = some v
      have key : ∀ s ∈ [10, 36, 37, 38, 39, 40, 41, 42], s ≠ t := fun s hsm e => by
        subst e
        have := hasT_get ht
        rw [hno s hsm] at this
        cases this
      simp [getT, key 36 (by simp), key 37 (by simp), key 38 (by simp), ht]) htl hbx hbt hperm (hl.trans (hl2.less (by rw [SL_len]; omega)) (Nat.le_refl _))
    exact hQ a' w' G2 f1 f2
  · obtain ⟨hem, hes⟩ := mem_left he
    obtain ⟨j, hj⟩ := List.getElem?_of_mem (hG.perm.mem_iff.2 hem)
    have hjl : j < ls.length := (List.getElem?_eq_some_iff.1 hj).1
    obtain ⟨k, hk⟩ : ∃ k, M[j]? = some k := ⟨_, List.getElem?_eq_getElem (by rw [hG.lk]; exact hjl)⟩
    obtain ⟨v, hv⟩ : ∃ v, vs[j]? = some v := ⟨_, List.getElem?_eq_getElem (by rw [hG.lv]; exact hjl)⟩
    have hkL : k ∉ L := fun h => by
      have := (hLs j e k hj hk).2 h
      rw [hes] at this; cases this
    have hrk := hG.rk j e k hj hk
    have hrv := hG.rv j e v hj hv
    have hvb := hG.vb v (List.mem_of_getElem? hv)
    -- the world behind the step
    have hR1 : Rel G (SL tm0 n sg idt g c (nextB A L) seen c0).sg w1 := by
      rcases hal with rfl | rfl
      · exact hs.rel
      · exact hs.rel.keep (below_drew w)
    have hR2 := it_turn hR1 hrho (SL_it (nextB A L) seen c0) (o := .mapIter (some g) c (seen.push e.born) c) (p' := itP g c (seen.push e.born) c) rfl (fun d h => by cases h)
    rw [SL_turn] at hR2
    have hs0 : RelS G (SL tm0 n sg idt g c (nextB A L) (seen.push e.born) c) a (w1.putObj gi (.mapIter (some g) c (seen.push e.born) c)) r db := by
      refine ⟨hR2, hs.tm, hs.n, hs.dfr, fun l hl' => ?_⟩
      obtain ⟨id, d, lr, h1, h2⟩ := hs.rd l hl'
      have hid : id ≠ sg.length := fun e => by subst e; rw [SL_it] at h2; cases h2
      exact ⟨id, d, lr, h1, by rw [SL_at (seen' := seen) (c0' := c0) hid]; exact h2⟩
    refine wpOps_rawR rfl rfl (fun c e => by cases e) (hnextop _ _ hrun) ?_
    have hs1 := hs0.put (dst := some 37) (fun d e => by cases e; exact Nat.lt_trans (by decide) hn) (v := .tuple [.bool true, encK k, v]) (u := .tuple #[.bool true, e.key, e.val]) (.tuple rfl fun j c u h1 h2 => by
      match j, h1, h2 with
      | 0, h1, h2 => simp at h1 h2; subst h1; subst h2; exact .bool
      | 1, h1, h2 => simp at h1 h2; subst h1; subst h2; exact leM_rep hl hrk rfl
      | 2, h1, h2 => simp at h1 h2; subst h1; subst h2; exact leM_rep hl hrv hvb
      | j + 3, h1, _ => simp at h1)
    have e1 : putD (SL tm0 n sg idt g c (nextB A L) (seen.push e.born) c).tm (some 37) (.tuple [.bool true, encK k, v]) = (37, .tuple [.bool true, encK k, v]) :: (SL tm0 n sg idt g c (nextB A L) (seen.push e.born) c).tm := putT_new (by show hasT (_ :: tm0) 37 = false; simp [hasT, hno 37 (by simp)]) _
    rw [e1] at hs1
    have hro := evOpsL_ok (P := Tryz.prog) (ops := (ops11 m).toArray) hTT cf0_ok noY_ok noM_ok _ 1 _ hos (seg11 (m := m) (tm0 := (SL tm0 n sg idt g c (nextB A L) (seen.push e.born) c).tm) (n := n) (sg := (SL tm0 n sg idt g c (nextB A L) (seen.push e.born) c).sg) (b := true) (vs := [encK k, v]) hn (by show hasT (_ :: tm0) 38 = false; simp [hasT, hno 38 (by simp)]))
    refine hro.2 r nn G _ _ db _ hs1 fun e2 a2 w2 G2 he2 hs2 hl2 => ?_
    obtain rfl := he2.normal'
    refine wpIn_seq (wpIn_cond (t := true) (rep_bool (evO_rep hs2.tm rfl)) (wpIn_skip ?_))
    refine wpIn_block (wpIn_seq (wpIn_region ?_))
    show wpOpsIn _ _ _ _ _ [0, 1, 2, 3] a2 w2
    have hlen := SL_len (tm0 := tm0) (n := n) (sg := sg) (idt := idt) (g := g) (since := c) (nextB A L) (seen.push e.born) c
    obtain ⟨gi2, o2, hev2, hrho2, hh2, ho2⟩ := it_at hs2 (id := sg.length) rfl (SL_it (tm0 := tm0) (n := n) (nextB A L) (seen.push e.born) c)
    unfold itP at ho2
    subst ho2
    have hsm2 := hl2.SM _ _ hsm
    have hmap2 : w2.heap[g]? = some (.map es c) := hs2.rel.stM _ _ _ hsm2
    have hl02 : Gh.leM sg.length G0 G2 := hl.trans (hl2.less (by rw [hlen]; omega)) (Nat.le_refl _)
    have hent := run_entry_at (P := Tryz.prog) w2 gi2 g c seen es c e hh2 hmap2 hem hG.inj
    refine wpOps_rawR rfl rfl (fun c e => by cases e) (u := .tuple #[e.key, e.val]) (w' := w2) ?_ ?_
    · show ((do pure (.value (← Instr.entry (a2.eval (.tmp 36)))) : Sem Next).run Tryz.prog w2) = _
      rw [hev2]
      simp [hent]
    have hs3 := hs2.put (dst := some 39) (fun d e => by cases e; exact Nat.lt_trans (by decide) hn) (v := .tuple [encK k, v]) (u := .tuple #[e.key, e.val]) (.tuple rfl fun j c u h1 h2 => by
      match j, h1, h2 with
      | 0, h1, h2 => simp at h1 h2; subst h1; subst h2; exact leM_rep hl02 hrk rfl
      | 1, h1, h2 => simp at h1 h2; subst h1; subst h2; exact leM_rep hl02 hrv hvb
      | j + 2, h1, _ => simp at h1)
    have e3 : putD ((38, PV.bool true) :: (37, .tuple [.bool true, encK k, v]) :: (SL tm0 n sg idt g c (nextB A L) (seen.push e.born) c).tm) (some 39) (.tuple [encK k, v]) = (39, .tuple [encK k, v]) :: (38, .bool true) :: (37, .tuple [.bool true, encK k, v]) :: (SL tm0 n sg idt g c (nextB A L) (seen.push e.born) c).tm :=
      putT_new (by show hasT (_ :: _ :: _ :: tm0) 39 = false; simp [hasT, hno 39 (by simp)]) _
    rw [e3] at hs3
    have hos2 : ∀ (j : Nat) (o : Oper), [mkO m 3 (some 40) (.extract (.tmp 39) 0), mkO m 4 (some 10) (.alloc 148), mkO m 5 none (.store 148 (.tmp 10) (.tmp 40))][j]? = some o → (ops12 m).toArray[1 + j]? = some o := fun j o h => by
      match j, h with
      | 0, h => cases h; rfl
      | 1, h => cases h; rfl
      | 2, h => cases h; rfl
      | j + 3, h => simp at h
    have hro2 := evOpsL_ok (P := Tryz.prog) (ops := (ops12 m).toArray) hTT cf0_ok noY_ok noM_ok _ 1 _ hos2 (round_cut (m := m) (tm0 := tm0) (n := n) (sg := sg) (idt := idt) (g := g) (since := c) (k := k) (v := v) (seen := seen.push e.born) (c0 := c) (B := nextB A L) hn hno)
    refine hro2.2 r nn G2 _ w2 db _ hs3 fun e4 a4 w4 G4 he4 hs4 hl4 => ?_
    obtain rfl := he4.normal'
    refine wpIn_region ?_
    have hos3 : ∀ (j : Nat) (o : Oper), (ops13 m)[j]? = some o → (ops13 m).toArray[0 + j]? = some o := fun j o h => by simpa using h
    have hro3 := evOpsL_ok (P := Tryz.prog) (ops := (ops13 m).toArray) hTT cf0_ok noY_ok noM_ok _ 0 _ hos3 (round_on (m := m) (tm0 := tm0) (n := n) (b7 := b7) (sg := sg) (idt := idt) (g := g) (since := c) (k := k) (v := v) (seen := seen.push e.born) (c0 := c) (B := nextB A L) (B' := nextB A (L ++ [k])) hn hno h7 hb7 hbt hne (nextB_nodup hA hLn) (nextB_add hkL))
    have hr3 : List.range (ops13 m).toArray.size = List.range' 0 (ops13 m).length := by rw [List.range_eq_range']; rfl
    rw [hr3]
    refine hro3.2 r nn G4 _ w4 db _ hs4 fun e5 a5 w5 G5 he5 hs5 hl5 => ?_
    obtain rfl := he5.normal'
    show ∃ k', k' < cnt ∧ _
    obtain ⟨G6, hs6, hl6⟩ := round_end hs5 (fun t v ht => by
      have key : ∀ s ∈ [10, 37, 38, 39, 40, 41, 42], s ≠ t := fun s hsm' e' => by
        subst e'
        have e'' : (if 36 = s then some (PV.bp sg.length 0) else getT tm0 s) = some v := ht
        have h36 : 36 ≠ s := fun h => by subst h; simp at hsm'
        rw [if_neg h36] at e''
        have := hasT_get e''
        rw [hno s (by simp at hsm' ⊢; omega)] at this
        cases this
      show getT ((42, _) :: (41, _) :: (10, _) :: (40, _) :: (39, _) :: (38, _) :: (37, _) :: (SL tm0 n sg idt g c (nextB A (L ++ [k])) (seen.push e.born) c).tm) t = some v
      simp [getT, key 10 (by simp), key 37 (by simp), key 38 (by simp), key 39 (by simp), key 40 (by simp), key 41 (by simp), key 42 (by simp)]
      exact ht) htl hbx (fun lr h => by cases h)
    refine ⟨(leftOf es (seen.push e.born)).size, by rw [← hcnt]; exact left_shrinks es seen e he, G6, seen.push e.born, c, L ++ [k], hs6, ?_, ?_, rfl, Nat.le_refl _, ?_, ?_, ?_⟩
    · refine ((hl02.trans hl4 ?_).trans hl5 ?_).trans hl6 (by omega)
      · show sg.length ≤ (SL tm0 n sg idt g c (nextB A L) (seen.push e.born) c).sg.length
        omega
      · show sg.length ≤ ((SL tm0 n sg idt g c (nextB A L) (seen.push e.born) c).sg ++ _).length
        rw [List.length_append]; omega
    · exact hl6.SM _ _ (hl5.SM _ _ (hl4.SM _ _ hsm2))
    · rw [List.nodup_append]
      refine ⟨hLn, by simp, fun a ha b hb e' => ?_⟩
      simp at hb
      subst hb; subst e'
      exact hkL ha
    · intro k' hk'
      rcases List.mem_append.1 hk' with h | h
      · exact hLM k' h
      · simp at h; subst h
        exact List.mem_of_getElem? hk
    · intro j' e' k' hj' hk'
      have hnd : (ls.map (·.born)).Nodup := (hG.perm.map _).nodup_iff.2 hG.inj
      rw [contains_push, Bool.or_eq_true, hLs j' e' k' hj' hk', List.mem_append, List.mem_singleton]
      have : (e'.born == e.born) = true ↔ k' = k := by
        constructor
        · intro h
          have h' : e'.born = e.born := by simpa using h
          have hi : j' = j := (List.getElem?_inj (l := ls.map (·.born)) (by simpa using (List.getElem?_eq_some_iff.1 hj').1) hnd).1 (by simp [hj', hj, h'])
          subst hi
          rw [hk] at hk'
          exact (Option.some.inj hk').symm
        · intro h
          subst h
          have hi : j' = j := (List.getElem?_inj (l := M) (List.getElem?_eq_some_iff.1 hk').1 hG.nd).1 (by rw [hk', hk])
          subst hi
          rw [hj] at hj'
          cases hj'
          simp
      rw [this]
end
def tmU : List Nat := [10, 36, 37, 38, 39, 40, 41, 42]
def dropT (ts : List Nat) (tm : List (Nat × PV)) : List (Nat × PV) := tm.filter fun p => !ts.contains p.1
theorem dropT_has {ts : List Nat} : ∀ {tm : List (Nat × PV)} {t : Nat}, t ∈ ts → hasT (dropT ts tm) t = false
  | [], t, h => rfl
  | (a, x) :: tm, t, h => by
    unfold dropT
    rw [List.filter_cons]
    split
    · rename_i hc
      have ha : a ≠ t := fun e => by subst e; simp [h] at hc
      unfold hasT
      rw [if_neg ha]
      exact dropT_has (tm := tm) h
    · exact dropT_has (tm := tm) h
theorem dropT_get {ts : List Nat} : ∀ {tm : List (Nat × PV)} {t : Nat} {v : PV}, getT (dropT ts tm) t = some v → getT tm t = some v
  | [], t, v, h => by cases h
  | (a, x) :: tm, t, v, h => by
    unfold dropT at h
    rw [List.filter_cons] at h
    unfold getT
    split at h
    · unfold getT at h
      split at h
      · rename_i ha; rw [if_pos ha]; exact h
      · rename_i ha; rw [if_neg ha]; exact dropT_get h
    · rename_i hc
      split
      · rename_i ha
        subst ha
        have h1 := hasT_get (dropT_get (ts := ts) (tm := tm) h) 
        have h2 : hasT (dropT ts tm) a = true := hasT_get h
        rw [dropT_has (by simpa using hc)] at h2
        cases h2
      · exact dropT_get h
theorem dropT_keep {ts : List Nat} : ∀ {tm : List (Nat × PV)} {t : Nat}, t ∉ ts → getT (dropT ts tm) t = getT tm t
  | [], t, h => rfl
  | (a, x) :: tm, t, h => by
    unfold dropT
    rw [List.filter_cons]
    split
    · unfold getT
      split
      · rfl
      · exact dropT_keep (tm := tm) h
    · rename_i hc
      have ha : a ≠ t := fun e => by subst e; simp at hc; exact h hc
      conv => rhs; unfold getT; rw [if_neg ha]
      exact dropT_keep (tm := tm) h
section
variable {m : Nat → TypeId × String × Array Edge}
theorem union_ok {st : St} {idm idt b7 : Nat} {M A : List K5} {vsm : List PV} {fz f7 : Bool} {ops : Array Oper} (hop : ops[3]? = some (mkO m 9 (some 36) (.range 144 (.tmp 35))))
    (h35 : getT st.tm 35 = some (.mp idm)) (hm : st.sg[idm]? = some (.map (M.map encK) vsm fz)) (hvb : ∀ v ∈ vsm, v.ltB 0 = true) (h7 : getT st.tm 7 = some (.bp b7 0)) (hb7 : st.sg[b7]? = some (.var [.mp idt] f7))
    (hbt : st.sg[idt]? = some (.map (A.map encK) (A.map fun _ => .bool true) false)) (hmt : idm ≠ idt) (hA : A.Nodup) (hM : M.Nodup) (hn : 42 < st.n) (hbx : ∀ b ∈ st.sg, b.Lt st.sg.length) (htl : ∀ t v, getT (dropT tmU st.tm) t = some v → Lt st.sg.length v)
    {r : Option Nat} {db : DB} {nn : Nat} {Q : Exit → Act → World → Prop} {G : Gh} {a : Act} {w : World} (hs : RelS G st a w r db)
    (hQ : ∀ a' w' G', RelS G' ⟨dropT tmU st.tm, st.n, (st.sg.set idm (.map (M.map encK) vsm true)).set idt (.map ((nextB A M).map encK) ((nextB A M).map fun _ => .bool true) false)⟩ a' w' r db → Gh.leM st.sg.length G G' → Q .normal a' w') :
    wpOpsIn (FW r) nn Tryz.prog ops (Exit.then ((Code.block 2 (.loop (roundU m))).wpIn (FW r) nn Tryz.prog Q) Q) [3] a w := by
  obtain ⟨u, hu, hru⟩ := hs.tm 35 _ h35
  obtain ⟨g, rfl, hrho⟩ : ∃ g, u = .map (some g) ∧ G.rho[idm]? = some (.blk g) := by cases hru; exact ⟨_, rfl, ‹_›⟩
  obtain ⟨hB, hSM, es, c, ls, hh, hp, lk, lv, rk, rv, born, old⟩ := hs.rel.box idm _ _ hrho hm
  obtain ⟨G1, a1, a2, a3, a4, _⟩ := frz1_ok hs.rel none hru
  simp only [frz1, hm] at a1 a4
  have hsm : G1.SM g = some (es, c) := by
    cases a4 with
    | im hs' hp' hk' hv' hrk' hrv' =>
      have := a1.stM _ _ _ hs'
      rw [hh] at this
      cases this
      exact hs'
  have lm : idm < st.sg.length := (List.getElem?_eq_some_iff.1 hm).1
  have hev : a.eval (.tmp 35) = .map (some g) := by simp [Act.eval, Array.getD_eq_getD_getElem?, hu]
  have ht : Tryz.prog.underlying 144 = some (.map 148 3) := und_map (hTT 144 rfl) rfl
  refine wpOps_rawR hop rfl (fun c e => by cases e) (u := .pointer (some ⟨w.heap.size, 0, none⟩)) (w' := w.alloc (.mapIter (some g) c #[] c)) ?_ ?_
  · show ((do pure (.value (← Instr.range 144 (a.eval (.tmp 35)))) : Sem Next).run Tryz.prog w) = _
    rw [hev]
    simp [run_range_map w 144 148 3 g es c ht hh]
  -- the iterator's box
  have hfr := a1.fresh w.heap.size (Nat.le_refl _)
  have hpush := a1.push (below_alloc w (.mapIter (some g) c #[] c)) (s := .blk w.heap.size) (b := .ext (itP g c #[] c)) (fun g' e => by cases e; exact Nat.le_refl _)
    ⟨a1.base_le, ⟨_, heap_alloc_new w _, rfl, fun d h => by cases h⟩, hfr.1, hfr.2⟩
  have hl1 : Gh.leM st.sg.length G (G1.push (.blk w.heap.size)) := (a2.leM _).trans ((G1.push_le _).leM _) (Nat.le_refl _)
  have hlen1 : (st.sg.set idm (.map (M.map encK) vsm true)).length = st.sg.length := by simp
  have hbt1 : (st.sg.set idm (.map (M.map encK) vsm true))[idt]? = some (.map (A.map encK) (A.map fun _ => .bool true) false) := by rw [List.getElem?_set_ne hmt]; exact hbt
  have hne : b7 ≠ idt := fun e => by subst e; rw [hbt] at hb7; cases hb7
  have hb71 : (st.sg.set idm (.map (M.map encK) vsm true))[b7]? = some (.var [.mp idt] f7) := by
    rw [List.getElem?_set_ne (fun e => by subst e; rw [hm] at hb7; cases hb7)]; exact hb7
  have hnil : nextB A [] = A := by simp [nextB]
  have hsg : (SL (dropT tmU st.tm) st.n (st.sg.set idm (.map (M.map encK) vsm true)) idt g c (nextB A []) #[] c).sg = st.sg.set idm (.map (M.map encK) vsm true) ++ [.ext (itP g c #[] c)] := by
    show (st.sg.set idm _).set idt _ ++ _ = _
    rw [hnil, set_same hbt1]
  have hbx1 : ∀ b ∈ st.sg.set idm (.map (M.map encK) vsm true), b.Lt (st.sg.set idm (.map (M.map encK) vsm true)).length := fun b hb => by
    rw [hlen1]
    rcases List.mem_or_eq_of_mem_set hb with hb | rfl
    · exact hbx b hb
    · exact ⟨fun c hc => by obtain ⟨k, _, rfl⟩ := List.mem_map.1 hc; exact encK_lt k _, fun v hv => Lt.mono (Nat.zero_le _) (lt_of_ltB 0 v (hvb v hv))⟩
  have h7' : getT (dropT tmU st.tm) 7 = some (.bp b7 0) := by rw [dropT_keep (by decide)]; exact h7
  have hs2 : RelS (G1.push (.blk w.heap.size)) (SL (dropT tmU st.tm) st.n (st.sg.set idm (.map (M.map encK) vsm true)) idt g c (nextB A []) #[] c) (a.put (some 36) (.pointer (some ⟨w.heap.size, 0, none⟩))) (w.alloc (.mapIter (some g) c #[] c)) r db := by
    refine ⟨by rw [hsg]; exact hpush, fun t v e => ?_, (put_size a _ _).trans hs.n, ?_, fun l hl => ?_⟩
    · have e' : (if 36 = t then some (PV.bp (st.sg.set idm (Box.map (M.map encK) vsm true)).length 0) else getT (dropT tmU st.tm) t) = some v := e
      by_cases h36 : 36 = t
      · rw [if_pos h36] at e'
        cases e'
        subst h36
        refine ⟨.pointer (some ⟨w.heap.size, 0, none⟩), ?_, .bp ?_⟩
        · simp only [Act.put]
          rw [Array.getElem?_setIfInBounds_self_of_lt (by rw [hs.n]; omega)]
        · show (G1.rho ++ [_])[_]? = _
          rw [← a1.len]; simp
      · rw [if_neg h36] at e'
        obtain ⟨y, hy, hr⟩ := hs.tm t v (dropT_get e')
        refine ⟨y, ?_, (hr.mono a2).mono (G1.push_le _)⟩
        simp only [Act.put]
        rw [Array.getElem?_setIfInBounds_ne h36]
        exact hy
    · obtain ⟨own, h1, h2⟩ := hs.dfr
      refine ⟨own, by rw [put_defers]; exact h1, ?_, h2.2⟩
      show G1.dfr = _
      rw [a3]; exact h2.1
    · obtain ⟨id, d, lr, h1, h2⟩ := hs.rd l hl
      have hid := (List.getElem?_eq_some_iff.1 h2).1
      obtain ⟨lr', h3, h4⟩ := loops_stay (lr := lr) hpush hl1 hid h1 (fun hg => by
        rw [List.getElem?_append_left (by simpa using hid)] at hg
        by_cases hi : idm = id
        · subst hi; rw [List.getElem?_set_self lm] at hg; cases hg
        · rw [List.getElem?_set_ne hi, h2] at hg; cases hg)
      exact ⟨id, d, lr', h3, by rw [hsg]; exact h4⟩
  have hgoes : Goes (G1.push (.blk w.heap.size)) g es c ls M vsm := by
    refine ⟨hsm, hp, by simpa using lk, lv, fun j e k hj hk => leM_rep hl1 (rk j e (encK k) hj (by simp [hk])) rfl, fun j e v hj hv => leM_rep hl1 (rv j e v hj hv) (hvb v (List.mem_of_getElem? hv)), hvb, born, old, hM⟩
  simp only [wpOpsIn]
  refine wpIn_block (wpIn_loop_idx (InvU (dropT tmU st.tm) st.n (st.sg.set idm (.map (M.map encK) vsm true)) idt g es c ls M A (G1.push (.blk w.heap.size)) r db) (k0 := (leftOf es #[]).size) ?_ ?_)
  · exact ⟨_, #[], c, [], hs2, leM_refl _ _, hsm, rfl, Nat.le_refl _, List.nodup_nil, (fun k h => by cases h), fun j e k _ _ => by simp⟩
  · refine round_ok (m := m) (b7 := b7) hn (fun t ht => dropT_has ht) h7' hb71 hbt1 hne (fun t v e => by rw [hlen1]; exact htl t v e) hbx1 hA hgoes fun a' w' G' hr hl => ?_
    exact hQ a' w' G' hr (hl1.trans hl (by rw [hlen1]; exact Nat.le_refl _))
end
end Go.Pv
namespace Go.Pv
open Go Go.RowKit Go.Proofs
set_option maxRecDepth 10000
set_option maxHeartbeats 4000000
abbrev Mt := TypeId × String × Array Edge
def g0 : Oper → Option Mt
  | ⟨some 37, .next (.tmp 36) false, t, p, f, none⟩ => some (t, p, f)
  | _ => none
theorem g0_inv {o : Oper} {x : Mt} (h : g0 o = some x) : o = ⟨some 37, .next (.tmp 36) false, x.1, x.2.1, x.2.2, none⟩ := by
  unfold g0 at h
  split at h <;> cases h
  rfl
def g1 : Oper → Option Mt
  | ⟨some 38, .extract (.tmp 37) 0, t, p, f, none⟩ => some (t, p, f)
  | _ => none
theorem g1_inv {o : Oper} {x : Mt} (h : g1 o = some x) : o = ⟨some 38, .extract (.tmp 37) 0, x.1, x.2.1, x.2.2, none⟩ := by
  unfold g1 at h
  split at h <;> cases h
  rfl
def g2 : Oper → Option Mt
  | ⟨some 39, .entry (.tmp 36), t, p, f, none⟩ => some (t, p, f)
  | _ => none
theorem g2_inv {o : Oper} {x : Mt} (h : g2 o = some x) : o = ⟨some 39, .entry (.tmp 36), x.1, x.2.1, x.2.2, none⟩ := by
  unfold g2 at h
  split at h <;> cases h
  rfl
def g3 : Oper → Option Mt
  | ⟨some 40, .extract (.tmp 39) 0, t, p, f, none⟩ => some (t, p, f)
  | _ => none
theorem g3_inv {o : Oper} {x : Mt} (h : g3 o = some x) : o = ⟨some 40, .extract (.tmp 39) 0, x.1, x.2.1, x.2.2, none⟩ := by
  unfold g3 at h
  split at h <;> cases h
  rfl
def g4 : Oper → Option Mt
  | ⟨some 10, .alloc 148, t, p, f, none⟩ => some (t, p, f)
  | _ => none
theorem g4_inv {o : Oper} {x : Mt} (h : g4 o = some x) : o = ⟨some 10, .alloc 148, x.1, x.2.1, x.2.2, none⟩ := by
  unfold g4 at h
  split at h <;> cases h
  rfl
def g5 : Oper → Option Mt
  | ⟨none, .store 148 (.tmp 10) (.tmp 40), t, p, f, none⟩ => some (t, p, f)
  | _ => none
theorem g5_inv {o : Oper} {x : Mt} (h : g5 o = some x) : o = ⟨none, .store 148 (.tmp 10) (.tmp 40), x.1, x.2.1, x.2.2, none⟩ := by
  unfold g5 at h
  split at h <;> cases h
  rfl
def g6 : Oper → Option Mt
  | ⟨some 41, .load 162 (.tmp 7), t, p, f, none⟩ => some (t, p, f)
  | _ => none
theorem g6_inv {o : Oper} {x : Mt} (h : g6 o = some x) : o = ⟨some 41, .load 162 (.tmp 7), x.1, x.2.1, x.2.2, none⟩ := by
  unfold g6 at h
  split at h <;> cases h
  rfl
def g7 : Oper → Option Mt
  | ⟨some 42, .load 148 (.tmp 10), t, p, f, none⟩ => some (t, p, f)
  | _ => none
theorem g7_inv {o : Oper} {x : Mt} (h : g7 o = some x) : o = ⟨some 42, .load 148 (.tmp 10), x.1, x.2.1, x.2.2, none⟩ := by
  unfold g7 at h
  split at h <;> cases h
  rfl
def g8 : Oper → Option Mt
  | ⟨none, .mapUpdate 162 (.tmp 41) (.tmp 42) (.const (.bool true)), t, p, f, none⟩ => some (t, p, f)
  | _ => none
theorem g8_inv {o : Oper} {x : Mt} (h : g8 o = some x) : o = ⟨none, .mapUpdate 162 (.tmp 41) (.tmp 42) (.const (.bool true)), x.1, x.2.1, x.2.2, none⟩ := by
  unfold g8 at h
  split at h <;> cases h
  rfl
def g9 : Oper → Option Mt
  | ⟨some 36, .range 144 (.tmp 35), t, p, f, none⟩ => some (t, p, f)
  | _ => none
theorem g9_inv {o : Oper} {x : Mt} (h : g9 o = some x) : o = ⟨some 36, .range 144 (.tmp 35), x.1, x.2.1, x.2.2, none⟩ := by
  unfold g9 at h
  split at h <;> cases h
  rfl
def mt (a b c d e f g h i j : Mt) : Nat → Mt
  | 0 => a
  | 1 => b
  | 2 => c
  | 3 => d
  | 4 => e
  | 5 => f
  | 6 => g
  | 7 => h
  | 8 => i
  | _ => j
/-- The pieces of the loop's body. -/
def bodyU : Code → Option (List Oper × List Oper × List Oper)
  | .seq (.region 11 x false) (.seq (.cond (.tmp 38) .skip (.exit 2)) (.block 3 (.seq (.region 12 y false) (.region 13 z false)))) => some (x.toList, y.toList, z.toList)
  | _ => none
theorem bodyU_inv {c : Code} {x y z : List Oper} (h : bodyU c = some (x, y, z)) : c = .seq (.region 11 x.toArray false) (.seq (.cond (.tmp 38) .skip (.exit 2)) (.block 3 (.seq (.region 12 y.toArray false) (.region 13 z.toArray false)))) := by
  unfold bodyU at h
  split at h <;> cases h
  rfl
def opsU (x y z : List Oper) (d : Oper) : Option (Nat → Mt) :=
  match x, y, z with
  | [a0, a1], [a2, a3, a4, a5], [a6, a7, a8] => match g0 a0, g1 a1, g2 a2 with
    | some m0, some m1, some m2 => match g3 a3, g4 a4, g5 a5 with
      | some m3, some m4, some m5 => match g6 a6, g7 a7, g8 a8 with
        | some m6, some m7, some m8 => match g9 d with
          | some m9 => some (mt m0 m1 m2 m3 m4 m5 m6 m7 m8 m9)
          | none => none
        | _, _, _ => none
      | _, _, _ => none
    | _, _, _ => none
  | _, _, _ => none
theorem opsU_inv {x y z : List Oper} {d : Oper} {m : Nat → Mt} (h : opsU x y z d = some m) : x = ops11 m ∧ y = ops12 m ∧ z = ops13 m ∧ d = mkO m 9 (some 36) (.range 144 (.tmp 35)) := by
  unfold opsU at h
  split at h <;> try (cases h; done)
  split at h <;> try (cases h; done)
  rename_i h0 h1 h2
  split at h <;> try (cases h; done)
  rename_i h3 h4 h5
  split at h <;> try (cases h; done)
  rename_i h6 h7 h8
  split at h <;> cases h
  rename_i h9
  rw [g0_inv h0, g1_inv h1, g2_inv h2, g3_inv h3, g4_inv h4, g5_inv h5, g6_inv h6, g7_inv h7, g8_inv h8, g9_inv h9]
  exact ⟨rfl, rfl, rfl, rfl⟩
/-- What the loop leaves. -/
def unionC (st : St) : Option St :=
  match getT st.tm 35, getT st.tm 7 with
  | some (.mp idm), some (.bp b7 0) => match st.sg[idm]?, st.sg[b7]? with
    | some (.map kM vsm _), some (.var [.mp idt] _) => match st.sg[idt]? with
      | some (.map kA vA false) => match decL decK kM, decL decK kA with
        | some M, some A => if (vA.all fun v => match v with
              | .bool b => b
              | _ => false) = true ∧ vA.length = A.length ∧ idm ≠ idt ∧ A.Nodup ∧ M.Nodup ∧ (vsm.all fun v => v.ltB 0) = true ∧ Nat.blt 42 st.n = true ∧ (st.sg.all fun b => b.ltB st.sg.length) = true ∧ ((dropT tmU st.tm).all fun p => p.2.ltB st.sg.length) = true then
            some ⟨dropT tmU st.tm, st.n, (st.sg.set idm (.map (M.map encK) vsm true)).set idt (.map ((nextB A M).map encK) ((nextB A M).map fun _ => .bool true) false)⟩
          else none
        | _, _ => none
      | _ => none
    | _, _ => none
  | _, _ => none
def pcU (cf : CallF) (c : Code) (st : St) : Option (Out × St) :=
  match c with
  | .seq (.region 10 os false) (.block 2 (.loop b)) => match bodyU b, os.toList with
    | some (x, y, z), [a0, a1, a2, a3] => match opsU x y z a3 with
      | some _ => if wantC os st.tm a0 = some true then match evOp noM cf noY TT st a0 with
          | some (.normal, st1) => if wantC os st1.tm a1 = some true then match evOp noM cf noY TT st1 a1 with
              | some (.normal, st2) => if wantC os st2.tm a2 = some true then match evOp noM cf noY TT st2 a2 with
                  | some (.normal, st3) => match unionC st3 with
                    | some st4 => some (.normal, st4)
                    | none => none
                  | _ => none
                else none
              | _ => none
            else none
          | _ => none
        else none
      | none => none
    | _, _ => none
  | _ => none
theorem allT {vA : List PV} (h : (vA.all fun v => match v with
              | .bool b => b
              | _ => false) = true) {A : List K5} (hl : vA.length = A.length) : vA = A.map fun _ => PV.bool true := by
  induction vA generalizing A with
  | nil => cases A with
    | nil => rfl
    | cons a A => simp at hl
  | cons v vA ih => cases A with
    | nil => simp at hl
    | cons a A =>
      rw [List.all_cons, Bool.and_eq_true] at h
      have hv : v = .bool true := by
        have := h.1
        split at this
        · subst this; rfl
        · cases this
      rw [List.map_cons, hv, ih h.2 (by simpa using hl)]
theorem pcU_ok : PcOk Tryz.prog pcU := fun cf hcf c st o st' h => by
  unfold pcU at h
  split at h <;> try (cases h; done)
  rename_i os b
  split at h <;> try (cases h; done)
  rename_i x y z a0 a1 a2 a3 hb hos
  split at h <;> try (cases h; done)
  rename_i m hm
  split at h <;> try (cases h; done)
  rename_i w0
  split at h <;> try (cases h; done)
  rename_i st1 e0
  split at h <;> try (cases h; done)
  rename_i w1
  split at h <;> try (cases h; done)
  rename_i st2 e1
  split at h <;> try (cases h; done)
  rename_i w2
  split at h <;> try (cases h; done)
  rename_i st3 e2
  split at h <;> cases h
  rename_i hu
  refine ⟨?_, fun b e => by cases e⟩
  obtain ⟨rfl, rfl, rfl, rfl⟩ := opsU_inv hm
  have hbody := bodyU_inv hb
  have r0 := evOp_ok (P := Tryz.prog) hTT hcf noY_ok noM_ok e0
  have r1 := evOp_ok (P := Tryz.prog) hTT hcf noY_ok noM_ok e1
  have r2 := evOp_ok (P := Tryz.prog) hTT hcf noY_ok noM_ok e2
  have hget : ∀ j o, [a0, a1, a2, mkO m 9 (some 36) (.range 144 (.tmp 35))][j]? = some o → os[j]? = some o := fun j o h => by
    rw [← hos, Array.getElem?_toList] at h; exact h
  unfold unionC at hu
  split at hu <;> try (cases hu; done)
  rename_i idm b7 h35 h7
  split at hu <;> try (cases hu; done)
  rename_i kM vsm fz idt f7 hbm hb7
  split at hu <;> try (cases hu; done)
  rename_i kA vA hbt
  split at hu <;> try (cases hu; done)
  rename_i M A hM hA
  split at hu <;> cases hu
  rename_i hc
  obtain ⟨c1, c2, c3, c4, c5, c6, c7, c8, c9⟩ := hc
  rw [decL_inv decK_inv hM] at hbm
  rw [decL_inv decK_inv hA, allT c1 c2] at hbt
  have hlen : st.sg.length ≤ st3.sg.length := Nat.le_trans r0.1 (Nat.le_trans r1.1 r2.1)
  refine ⟨by simpa using hlen, fun r n G a w db Q hs k => wpIn_seq (wpIn_region ?_)⟩
  have hsz : os.size = 4 := by rw [← Array.length_toList, hos]; rfl
  rw [hsz]
  show wpOpsIn _ n _ os _ [0, 1, 2, 3] a w
  refine wpOps_consK hTT (hget 0 a0 rfl) w0 r0 hs fun a' w' G1 hs1 hl1 => ?_
  refine wpOps_consK hTT (hget 1 a1 rfl) w1 r1 hs1 fun a' w' G2 hs2 hl2 => ?_
  refine wpOps_consK hTT (hget 2 a2 rfl) w2 r2 hs2 fun a' w' G3 hs3 hl3 => ?_
  rw [hbody]
  refine union_ok (m := m) (hget 3 _ rfl) h35 hbm (fun v hv => List.all_eq_true.1 c6 v hv) h7 hb7 hbt c3 c4 c5 (by simpa using c7) (fun b hb => boxLt_of (List.all_eq_true.1 c8 b hb)) (fun t v e => ?_) hs3 fun a4 w4 G4 hs4 hl4 => ?_
  · obtain ⟨p, hp, e'⟩ : ∃ p ∈ dropT tmU st3.tm, p.2 = v := by
      have : ∀ (tm : List (Nat × PV)), getT tm t = some v → ∃ p ∈ tm, p.2 = v := by
        intro tm
        induction tm with
        | nil => intro h; cases h
        | cons q tm ih =>
          intro h
          obtain ⟨s, x⟩ := q
          unfold getT at h
          split at h
          · cases h; exact ⟨_, List.mem_cons_self .., rfl⟩
          · obtain ⟨p, hp, e⟩ := ih h
            exact ⟨p, List.mem_cons_of_mem _ hp, e⟩
      exact this _ e
    have := List.all_eq_true.1 c9 p hp
    rw [e'] at this
    exact lt_of_ltB _ _ this
  · exact k .normal a4 w4 G4 trivial hs4 (((hl1.trans hl2 r0.1).trans hl3 (Nat.le_trans r0.1 r1.1)).trans hl4 hlen)
end Go.Pv
namespace Go.Pv
open Go Go.RowKit Go.Proofs
set_option maxRecDepth 100000
set_option maxHeartbeats 40000000
def primJ : CallF → FuncId → List PV → List Box → Option (Option (PRes × List Box)) := fun cf f args sg =>
  if f = 97 then match conFrz c97 args sg with
    | some r => some (some r)
    | none => none
  else primK cf f args sg
theorem primJ_ok : PrimOk Tryz.prog primJ := fun cf hcf f args sg r sg' h => by
  unfold primJ at h
  split at h
  · rename_i hf
    subst hf
    split at h <;> cases h
    rename_i h1
    exact c97_ok.frz _ _ _ _ h1
  · exact primK_ok cf hcf _ _ _ _ _ h
/-- A call that known() makes is done by the evaluator. -/
theorem kcall {f : FuncId} {args : List PV} {v : PV} (k : Nat) (h : evX Tryz.prog meJ TT primJ pcU k (.call f args []) = some (.call (.ret v) [])) : Enters Tryz.prog f ∧ CallOk Tryz.prog f args [] (.ret v) [] := by
  have := evX_call hTT meJ_ok mixed named primJ_ok pcU_ok h
  exact ⟨this.1, this.2.1⟩
def kA : PV := .agg [ii 0, .sl .f [encLb ⟨-1, 2, -1, 1, 0⟩, encLb ⟨0, 1, 0, 2, 1⟩, encLb ⟨-1, 3, 2, 3, 1⟩]]
def kS : PV := .agg [ii (-20), ii 22, ii (-12), ii 25, .sl .f [encFld ⟨10, 25, -12, 12⟩, encFld ⟨-20, 5, 10, 25⟩], .sl .f [ii 1, ii 2]]
def kPl (x y : Int) : PV := .agg [ii x, ii y]
def kP (a b c : Int) : PV := .sl .f [ii a, ii b, ii c]
def kR (a b c : Int) : PV := .sl .a [ii a, ii b, ii c]
end Go.Pv
