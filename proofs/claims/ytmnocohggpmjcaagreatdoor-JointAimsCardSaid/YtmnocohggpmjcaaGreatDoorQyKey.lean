/- Contracts: a pose as a key of a map; what is found in a map by such keys; rows that may be nil, frozen. -/
import Derived.Test.YtmnocohggpmjcaaGreatDoorQyTurn
import Derived.Test.YtmnocohggpmjcaaGreatDoorQgEnds
import Derived.Test.YtmnocohggpmjcaaGreatDoorQoFine
set_option linter.all false
namespace Go.Pv
open Go Go.RowKit Go.Proofs
set_option maxRecDepth 10000
set_option maxHeartbeats 4000000
def keyP (l : List Int) : PV := .agg [ii (l.getD 0 0), ii (l.getD 1 0), ii (l.getD 2 0), ii (l.getD 3 0), ii (l.getD 4 0)]
theorem keyP_inj : ∀ {a b : List Int}, a.length = b.length → a.length ≤ 5 → keyP a = keyP b → a = b := by
  intro a b hl h5 h
  simp only [keyP, PV.agg.injEq, List.cons.injEq, PV.int.injEq, true_and, and_true] at h
  obtain ⟨h0, h1, h2, h3, h4⟩ := h
  refine List.ext_getElem hl fun i hi hj => ?_
  have e : ∀ (l : List Int) (k : Nat) (hk : k < l.length), l.getD k 0 = l[k] := fun l k hk => by rw [List.getD_eq_getElem?_getD, List.getElem?_eq_getElem hk]; rfl
  rcases (by omega : i = 0 ∨ i = 1 ∨ i = 2 ∨ i = 3 ∨ i = 4) with rfl | rfl | rfl | rfl | rfl
  · rw [e a 0 hi, e b 0 hj] at h0; exact h0
  · rw [e a 1 hi, e b 1 hj] at h1; exact h1
  · rw [e a 2 hi, e b 2 hj] at h2; exact h2
  · rw [e a 3 hi, e b 3 hj] at h3; exact h3
  · rw [e a 4 hi, e b 4 hj] at h4; exact h4
theorem keyOf_99s (z : Z) (l : List Int) (h5 : l.length ≤ 5) : CallOk Tryz.prog 99 [.sl z (l.map ii)] [] (.ret (keyP l)) [] := by
  have hS : splice zero5 0 (flat (l.map ii)) = [ii (l.getD 0 0), ii (l.getD 1 0), ii (l.getD 2 0), ii (l.getD 3 0), ii (l.getD 4 0)] := by
    match l, h5 with
    | [], _ => rfl
    | [a], _ => rfl
    | [a, b], _ => rfl
    | [a, b, c], _ => rfl
    | [a, b, c, d], _ => rfl
    | [a, b, c, d, e], _ => rfl
    | _ :: _ :: _ :: _ :: _ :: _ :: _, h => simp at h
  have := keyOf_99 (x := .sl z (l.map ii)) (ys := l.map ii) (sg := []) rfl (by rw [List.all_map]; exact List.all_eq_true.2 fun _ _ => rfl) (by rw [List.length_map]; exact h5) hS (sameLoops_of _ _ rfl)
  exact this.cut (fun b hb => by cases hb) (lt_of_closed (keyP l) rfl)
def c99s : List PV → List Box → Option (PRes × List Box)
  | [.sl z es], sg => match decL decI es with
    | some l => if l.length ≤ 5 then some (.ret (keyP l), sg) else none
    | none => none
  | _, _ => none
theorem c99s_ok : ConOk Tryz.prog 99 c99s := ConOk.of0 (ent Tryz.func99 rfl) fun args sg r sg' h => by
  unfold c99s at h
  split at h <;> try (cases h; done)
  split at h <;> try (cases h; done)
  rename_i h1
  split at h <;> cases h
  rename_i hc
  obtain rfl := decL_inv decI_inv h1
  exact ⟨_, rfl, rfl, by rw [ltBL_cons, ltB_isl]; rfl, keyOf_99s _ _ hc⟩
abbrev K148 : TyI := ⟨5, 40, [.int .i64 0, .int .i64 0, .int .i64 0, .int .i64 0, .int .i64 0], .array 5 3, some [.i .i64, .i .i64, .i .i64, .i .i64, .i .i64]⟩
theorem keyP_ok (l : List Int) : keyOkC K148 (keyP l) = true := by kernel_rfl
def eqKy (a b : List Int) : Bool := (a.getD 0 0 == b.getD 0 0 && (a.getD 1 0 == b.getD 1 0 && (a.getD 2 0 == b.getD 2 0 && (a.getD 3 0 == b.getD 3 0 && (a.getD 4 0 == b.getD 4 0 && true)))))
theorem eqK_iff (a b : List Int) : eqKy a b = true ↔ keyP a = keyP b := by
  unfold eqKy keyP
  simp
theorem eqK_t {a b : List Int} (h : keyP a = keyP b) : eqKy a b = true := (eqK_iff a b).2 h
theorem eqK_f {a b : List Int} (h : keyP a ≠ keyP b) : eqKy a b = false := by
  rw [Bool.eq_false_iff]
  exact fun e => h ((eqK_iff a b).1 e)
theorem eqKT (a b : List Int) : eqT K148 (keyP a) (keyP b) = some (eqKy a b) := by kernel_rfl
section
variable {α : Type} (f : α → List Int)
theorem findK_not {k : List Int} : ∀ (B : List α) (j : Nat), (∀ b ∈ B, keyP k ≠ keyP (f b)) → findC K148 (keyP k) (B.map fun x => keyP (f x)) j = some none
  | [], _, _ => rfl
  | b :: B, j, h => by
    have h1 := h b (List.mem_cons_self ..)
    show (if (keyP (f b)).ag = true then _ else _) = _
    rw [if_pos (show (keyP (f b)).ag = true from rfl), eqKT, eqK_f h1, findK_not B (j + 1) fun x hx => h x (List.mem_cons_of_mem _ hx)]
theorem findK_in {k : List Int} : ∀ (B : List α) (j i : Nat) (b : α), B[i]? = some b → keyP k = keyP (f b) → (∀ (i' : Nat) (b' : α), i' ≠ i → B[i']? = some b' → keyP k ≠ keyP (f b')) → findC K148 (keyP k) (B.map fun x => keyP (f x)) j = some (some (j + i))
  | [], _, _, _, h, _, _ => by simp at h
  | b :: B, j, 0, b', h, hk, hn => by
    cases h
    show (if (keyP (f b)).ag = true then _ else _) = _
    rw [if_pos (show (keyP (f b)).ag = true from rfl), eqKT, eqK_t hk, findK_not f B (j + 1) fun x hx => by
      obtain ⟨i, hi⟩ := List.getElem?_of_mem hx
      exact hn (i + 1) x (by omega) hi]
    rfl
  | b :: B, j, i + 1, b', h, hk, hn => by
    have h1 := hn 0 b (by omega) rfl
    have ih := findK_in B (j + 1) i b' h hk fun i' x hi hx => hn (i' + 1) x (by omega) hx
    show (if (keyP (f b)).ag = true then _ else _) = _
    rw [if_pos (show (keyP (f b)).ag = true from rfl), eqKT, eqK_f h1, ih]
    rw [show j + 1 + i = j + (i + 1) by omega]
end
/-- A row that may be nil is frozen; the temporary is its slice from now on. -/
theorem RunQ.freezeZ {P : Program} {c : Code} {Q : Out → St → Prop} (t id : Nat) {tm tm' : List (Nat × PV)} {n m k : Nat} {e : TypeId} {sg sg' : List Box} {z : Bool} {es : List PV} (h : getT tm t = some (.ms id m)) (hb : sg[id]? = some (.row z e k es false))
    (hm : es.length = m) (hc : closedL es = true) (e1 : sg.set id (.row z e k es true) = sg') (e2 : putT tm t (.sl (if z = true then .n else .a) es) = tm') (hq : RunQ P c ⟨tm', n, sg'⟩ Q) : RunQ P c ⟨tm, n, sg⟩ Q := by
  have hrows : rowsOf sg [id] = sg' := by
    unfold rowsOf
    simp only [hb, rowsOf]
    rw [frzL_closed (n := 4) (flat es) sg (closedL_flat es hc)]
    simp only [regroup_self]
    exact e1
  have hid : sg'[id]? = some (.row z e k es true) := by
    rw [← e1]
    exact List.getElem?_set_self (List.getElem?_eq_some_iff.1 hb).1
  have hv : viewV sg' (.ms id m) = some (.sl (if z = true then .n else .a) es) := by
    show view1 sg' (.ms id m) = _
    unfold view1
    simp [hid, hm]
  have g1 : Ghost ⟨tm, n, sg⟩ ⟨tm, n, sg'⟩ := by
    have := Ghost.rows [id] sg ⟨tm, n, sg⟩ rfl
    rw [hrows] at this
    exact this
  have g2 : Ghost ⟨tm, n, sg'⟩ ⟨tm', n, sg'⟩ := by
    have := Ghost.view (n := n) (sg := sg') h hv
    rw [e2] at this
    exact this
  exact RunQ.pre (g1.trans g2) hq
end Go.Pv
namespace Go.Pv
section
variable {α : Type} [DecidableEq α] (nb : α → List α)
def hasK (Q : List (α × Nat)) (y : α) : Bool := Q.any fun p => decide (p.1 = y)
def addQ (d : Nat) (Q : List (α × Nat)) (y : α) : List (α × Nat) := if hasK Q y = true then Q else Q ++ [(y, d)]
def addN (d : Nat) (Q : List (α × Nat)) (ys : List α) : List (α × Nat) := ys.foldl (addQ d) Q
def procQ (Q : List (α × Nat)) (i : Nat) : List (α × Nat) :=
  match Q[i]? with
  | some x => addN (x.2 + 1) Q (nb x.1)
  | none => Q
def bfs (Q0 : List (α × Nat)) : Nat → List (α × Nat)
  | 0 => Q0
  | i + 1 => procQ nb (bfs Q0 i) i
variable {nb} {Q Q0 : List (α × Nat)} {d : Nat}
theorem hasK_iff {y : α} : hasK Q y = true ↔ ∃ e, (y, e) ∈ Q := by
  unfold hasK
  rw [List.any_eq_true]
  constructor
  · rintro ⟨⟨a, e⟩, h, h2⟩
    have : a = y := of_decide_eq_true h2
    exact ⟨e, this ▸ h⟩
  · rintro ⟨e, h⟩
    exact ⟨(y, e), h, decide_eq_true rfl⟩
theorem hasK_keys {y : α} : hasK Q y = true ↔ y ∈ Q.map Prod.fst := by
  rw [hasK_iff]
  constructor
  · rintro ⟨e, h⟩; exact List.mem_map.2 ⟨_, h, rfl⟩
  · intro h
    obtain ⟨x, hx, rfl⟩ := List.mem_map.1 h
    exact ⟨x.2, hx⟩
theorem addN_cons (y : α) (ys : List α) : addN d Q (y :: ys) = addN d (addQ d Q y) ys := rfl
theorem addN_snoc (ys : List α) (y : α) : addN d Q (ys ++ [y]) = addQ d (addN d Q ys) y := by
  unfold addN; rw [List.foldl_append]; rfl
theorem addN_ex : ∀ (ys : List α) (Q : List (α × Nat)), ∃ r, addN d Q ys = Q ++ r ∧ ∀ x ∈ r, x.2 = d ∧ x.1 ∈ ys
  | [], Q => ⟨[], by simp [addN], by simp⟩
  | y :: ys, Q => by
    obtain ⟨r, h1, h2⟩ := addN_ex ys (addQ d Q y)
    rw [addN_cons, h1]
    unfold addQ
    split
    · exact ⟨r, rfl, fun x hx => ⟨(h2 x hx).1, List.mem_cons_of_mem _ (h2 x hx).2⟩⟩
    · refine ⟨(y, d) :: r, by simp, fun x hx => ?_⟩
      rcases List.mem_cons.1 hx with rfl | hx
      · exact ⟨rfl, List.mem_cons_self ..⟩
      · exact ⟨(h2 x hx).1, List.mem_cons_of_mem _ (h2 x hx).2⟩
theorem addQ_nodup (y : α) (h : (Q.map Prod.fst).Nodup) : ((addQ d Q y).map Prod.fst).Nodup := by
  unfold addQ
  split
  · exact h
  · rename_i hk
    rw [List.map_append, List.nodup_append]
    refine ⟨h, by simp, fun a ha b hb => ?_⟩
    simp at hb
    subst hb
    intro e
    subst e
    exact hk (hasK_keys.2 ha)
theorem addN_nodup : ∀ (ys : List α) (Q : List (α × Nat)), (Q.map Prod.fst).Nodup → ((addN d Q ys).map Prod.fst).Nodup
  | [], Q, h => h
  | y :: ys, Q, h => by rw [addN_cons]; exact addN_nodup ys _ (addQ_nodup y h)
theorem procQ_ex (Q : List (α × Nat)) (i : Nat) : ∃ r, procQ nb Q i = Q ++ r ∧ ∀ x ∈ r, ∃ y, Q[i]? = some y ∧ x.2 = y.2 + 1 ∧ x.1 ∈ nb y.1 := by
  unfold procQ
  split
  · rename_i y hy
    obtain ⟨r, h1, h2⟩ := addN_ex (d := y.2 + 1) (nb y.1) Q
    exact ⟨r, h1, fun x hx => ⟨y, hy, h2 x hx⟩⟩
  · exact ⟨[], by simp, by simp⟩
theorem bfs_succ (i : Nat) : ∃ r, bfs nb Q0 (i + 1) = bfs nb Q0 i ++ r := by
  obtain ⟨r, h, _⟩ := procQ_ex (nb := nb) (bfs nb Q0 i) i
  exact ⟨r, h⟩
theorem bfs_pre {i j : Nat} (h : i ≤ j) : ∃ r, bfs nb Q0 j = bfs nb Q0 i ++ r := by
  induction j with
  | zero => obtain rfl : i = 0 := by omega
            exact ⟨[], by simp⟩
  | succ j ih =>
    by_cases he : i = j + 1
    · subst he; exact ⟨[], by simp⟩
    · obtain ⟨r, hr⟩ := ih (by omega)
      obtain ⟨r', hr'⟩ := bfs_succ (nb := nb) (Q0 := Q0) j
      exact ⟨r ++ r', by rw [hr', hr, List.append_assoc]⟩
theorem bfs_get {i j k : Nat} (h : i ≤ j) {x : α × Nat} (hx : (bfs nb Q0 i)[k]? = some x) : (bfs nb Q0 j)[k]? = some x := by
  obtain ⟨r, hr⟩ := bfs_pre (nb := nb) (Q0 := Q0) h
  rw [hr, List.getElem?_append_left (List.getElem?_eq_some_iff.1 hx).1]
  exact hx
theorem bfs_end {i j : Nat} (h : i ≤ j) (hl : (bfs nb Q0 i).length ≤ i) : bfs nb Q0 j = bfs nb Q0 i := by
  induction j with
  | zero => obtain rfl : i = 0 := by omega
            rfl
  | succ j ih =>
    by_cases he : i = j + 1
    · subst he; rfl
    · have e := ih (by omega)
      show procQ nb (bfs nb Q0 j) j = _
      rw [e]
      unfold procQ
      rw [List.getElem?_eq_none (by omega)]
theorem procQ_nodup (i : Nat) (h : (Q.map Prod.fst).Nodup) : ((procQ nb Q i).map Prod.fst).Nodup := by
  unfold procQ
  split
  · exact addN_nodup _ _ h
  · exact h
theorem bfs_nodup (h : (Q0.map Prod.fst).Nodup) : ∀ i, ((bfs nb Q0 i).map Prod.fst).Nodup
  | 0 => h
  | i + 1 => procQ_nodup i (bfs_nodup h i)
theorem bfs_all {p : α → Prop} (h0 : ∀ x ∈ Q0, p x.1) (hn : ∀ x, p x → ∀ y ∈ nb x, p y) : ∀ i, ∀ x ∈ bfs nb Q0 i, p x.1
  | 0, x, hx => h0 x hx
  | i + 1, x, hx => by
    obtain ⟨r, h1, h2⟩ := procQ_ex (nb := nb) (bfs nb Q0 i) i
    have hx : x ∈ procQ nb (bfs nb Q0 i) i := hx
    rw [h1] at hx
    rcases List.mem_append.1 hx with hx | hx
    · exact bfs_all h0 hn i x hx
    · obtain ⟨y, hy, _, hxy⟩ := h2 x hx
      exact hn _ (bfs_all h0 hn i y (List.mem_of_getElem? hy)) _ hxy
end
end Go.Pv
namespace Go.Pv
open Go Go.RowKit Go.Proofs
def nbG (s : Int) (ls : List Lb) (g : Stg) (l : List Int) : List (List Int) := (nextG s ls g l).map Prod.snd
abbrev Dst := List (List Int × Nat)
def awayQ (s : Int) (ls : List Lb) (g : Stg) (f : List Int) (i : Nat) : Dst := bfs (nbG s ls g) [(f, 0)] i
def awayG (s : Int) (ls : List Lb) (g : Stg) (f : List Int) : Dst := awayQ s ls g f 60000
def mpK (Q : Dst) : List PV := Q.map fun x => keyP x.1
def mpV (Q : Dst) : List PV := Q.map fun x => ii (x.2 : Nat)
abbrev pvA (l : List Int) : PV := .sl .a (l.map ii)
def aftE (Q : Dst) (b : Nat) : List PV := (Q.drop b).map fun x => pvA x.1
theorem nodup_len {α : Type} [DecidableEq α] : ∀ {l m : List α}, l.Nodup → (∀ x ∈ l, x ∈ m) → l.length ≤ m.length
  | [], _, _, _ => Nat.zero_le _
  | a :: l, m, hn, hs => by
    obtain ⟨h1, h2⟩ := List.nodup_cons.1 hn
    have ha := hs a (List.mem_cons_self ..)
    have ih := nodup_len (l := l) (m := m.erase a) h2 fun x hx => by
      have hne : x ≠ a := fun e => h1 (e ▸ hx)
      exact (List.mem_erase_of_ne hne).2 (hs x (List.mem_cons_of_mem _ hx))
    have := List.length_erase_of_mem ha
    have hpos : 0 < m.length := List.length_pos_of_mem ha
    rw [List.length_cons]
    omega
section
variable {s : Int} {ls : List Lb} {g : Stg} {f : List Int}
theorem nb_mem {l q : List Int} : q ∈ nbG s ls g l ↔ ∃ t ∈ candG ls.length, q = trnG l t ∧ poseG ls q = true ∧ finG s ls g q = true := by
  unfold nbG nextG
  simp only [List.map_map, List.mem_map, List.mem_filter, okT, Bool.and_eq_true]
  constructor
  · rintro ⟨t, ⟨h1, h2, h3⟩, rfl⟩; exact ⟨t, h1, rfl, h2, h3⟩
  · rintro ⟨t, h1, rfl, h2, h3⟩; exact ⟨t, ⟨h1, h2, h3⟩, rfl⟩
theorem away_pose (hp : poseG ls f = true) (i : Nat) : ∀ x ∈ awayQ s ls g f i, poseG ls x.1 = true :=
  bfs_all (p := fun l => poseG ls l = true) (fun x hx => by simp at hx; subst hx; exact hp) (fun x hx y hy => by obtain ⟨t, _, _, h, _⟩ := nb_mem.1 hy; exact h) i
theorem away_nodup (i : Nat) : ((awayQ s ls g f i).map Prod.fst).Nodup := bfs_nodup (by simp) i
theorem away_len (hf : figB s ls = true) (hp : poseG ls f = true) (i : Nat) : (awayQ s ls g f i).length ≤ 59049 := by
  have h1 := nodup_len (away_nodup (s := s) (ls := ls) (g := g) (f := f) i) (m := posesG ls) fun l hl => by
    obtain ⟨x, hx, rfl⟩ := List.mem_map.1 hl
    exact mem_poses.2 (away_pose hp i x hx)
  rw [List.length_map] at h1
  exact Nat.le_trans h1 (poses_len hf)
theorem away_end {i : Nat} (h : (awayQ s ls g f i).length ≤ i) (hi : i ≤ 60000) : awayQ s ls g f i = awayG s ls g f := (bfs_end (nb := nbG s ls g) hi h).symm
end
theorem addW {s : Int} {ls : List Lb} {Q : Dst} (hf : figB s ls = true) (hq : ∀ x ∈ Q, poseG ls x.1 = true) (hd : (Q.map Prod.fst).Nodup) {ys : List (List Int)} (hys : ∀ y ∈ ys, poseG ls y = true) (d : Nat) :
    (∀ x ∈ addN d Q ys, poseG ls x.1 = true) ∧ ((addN d Q ys).map Prod.fst).Nodup ∧ (addN d Q ys).length ≤ 59049 := by
  have h1 : ∀ x ∈ addN d Q ys, poseG ls x.1 = true := fun x hx => by
    obtain ⟨r, hr, h2⟩ := addN_ex (d := d) ys Q
    rw [hr] at hx
    rcases List.mem_append.1 hx with hx | hx
    · exact hq x hx
    · exact hys _ (h2 x hx).2
  have h2 := addN_nodup (d := d) ys Q hd
  refine ⟨h1, h2, ?_⟩
  have h3 := nodup_len h2 (m := posesG ls) fun l hl => by
    obtain ⟨x, hx, rfl⟩ := List.mem_map.1 hl
    exact mem_poses.2 (h1 x hx)
  rw [List.length_map] at h3
  exact Nat.le_trans h3 (poses_len hf)
theorem mpK_snoc (Q : Dst) (x : List Int × Nat) : mpK (Q ++ [x]) = mpK Q ++ [keyP x.1] := by unfold mpK; simp
theorem mpV_snoc (Q : Dst) (x : List Int × Nat) : mpV (Q ++ [x]) = mpV Q ++ [ii (x.2 : Nat)] := by unfold mpV; simp
theorem aft_snoc (Q : Dst) (x : List Int × Nat) {b : Nat} (h : b ≤ Q.length) : aftE (Q ++ [x]) b = aftE Q b ++ [pvA x.1] := by
  unfold aftE
  rw [List.drop_append_of_le_length h]; simp
theorem aft_len (Q : Dst) (b : Nat) : (aftE Q b).length = Q.length - b := by unfold aftE; rw [List.length_map, List.length_drop]
theorem mpKc (Q : Dst) : closedL (mpK Q) = true := closedL_map (fun _ => rfl) Q
theorem mpVc (Q : Dst) : closedL (mpV Q) = true := closedL_map (fun _ => rfl) Q
theorem aftc (Q : Dst) (b : Nat) : closedL (aftE Q b) = true := closedL_map (g := fun x : List Int × Nat => pvA x.1) (fun x => (show (pvA x.1).closed = true from closedL_is x.1)) _
theorem sameLoopsC_nil {sg : List Box} (h : noLoops sg = true) : sameLoopsC [] sg = true := h
theorem leave_mp {id : Nat} {sg : List Box} {ks vs : List PV} {frz : Bool} (h : sg[id]? = some (.map ks vs frz)) (hk : closedL ks = true) (hv : closedL vs = true) : leaveC0 0 (.mp id) sg = (.im ks vs, []) := by
  refine leaveF ?_ (by simp [PV.closed, hk, hv])
  unfold frzX
  rw [if_neg (by simp [PV.closed])]
  simp [frz1, h, frzC, frzL_closed (n := 6) _ _ hv]
theorem sameL_of : ∀ {a b : List Box}, noLoops a = true → noLoops b = true → SameLoops a b := fun {a b} ha hb => by
  refine ⟨fun id lr e => ?_, fun id lr e => ?_⟩
  · have := List.all_eq_true.1 ha _ (List.mem_of_getElem? e)
    simp [isLoopB] at this
  · have := List.all_eq_true.1 hb _ (List.mem_of_getElem? e)
    simp [isLoopB] at this
theorem noLoops_app {a b : List Box} (ha : noLoops a = true) (hb : noLoops b = true) : noLoops (a ++ b) = true := by
  unfold noLoops at *
  rw [List.all_append, ha, hb]; rfl
theorem away_step {s : Int} {ls : List Lb} {g : Stg} {f : List Int} {i : Nat} {x : List Int × Nat} (h : (awayQ s ls g f i)[i]? = some x) : awayQ s ls g f (i + 1) = addN (x.2 + 1) (awayQ s ls g f i) (nbG s ls g x.1) := by
  show procQ (nbG s ls g) (awayQ s ls g f i) i = _
  unfold procQ
  rw [h]
/-- What is found in the map. -/
theorem mp_not {Q : Dst} {k : List Int} {n : Nat} (hk : k.length = n) (hn : n ≤ 5) (hQ : ∀ x ∈ Q, x.1.length = n) (h : hasK Q k = false) : findC K148 (keyP k) (mpK Q) 0 = some none :=
  findK_not (fun x : List Int × Nat => x.1) Q 0 fun b hb e => by
    have h1 := hQ b hb
    have := keyP_inj (by omega) (by omega) e
    rw [Bool.eq_false_iff] at h
    exact h (hasK_iff.2 ⟨b.2, by rw [this]; exact hb⟩)
theorem mp_in {Q : Dst} {k : List Int} {n d : Nat} (hk : k.length = n) (hn : n ≤ 5) (hQ : ∀ x ∈ Q, x.1.length = n) (hd : (Q.map Prod.fst).Nodup) (h : (k, d) ∈ Q) : ∃ j, findC K148 (keyP k) (mpK Q) 0 = some (some j) ∧ (mpV Q)[j]? = some (ii d) ∧ j < Q.length := by
  obtain ⟨i, hi⟩ := List.getElem?_of_mem h
  refine ⟨i, ?_, by unfold mpV; rw [List.getElem?_map, hi]; rfl, (List.getElem?_eq_some_iff.1 hi).1⟩
  have := findK_in (fun x : List Int × Nat => x.1) (k := k) Q 0 i _ hi rfl fun i' b' hne hb' e => by
    have h1 := hQ b' (List.mem_of_getElem? hb')
    have hkb := keyP_inj (by omega) (by omega) e
    have hp := List.pairwise_iff_getElem.1 hd
    have hi1 := (List.getElem?_eq_some_iff.1 hi)
    have hi2 := (List.getElem?_eq_some_iff.1 hb')
    obtain ⟨l1, e1⟩ := hi1
    obtain ⟨l2, e2⟩ := hi2
    have m1 : (Q.map Prod.fst)[i]'(by simpa using l1) = k := by simp [e1]
    have m2 : (Q.map Prod.fst)[i']'(by simpa using l2) = k := by simp [e2, hkb]
    rcases Nat.lt_or_gt_of_ne hne with hlt | hlt
    · exact hp i' i (by simpa using l2) (by simpa using l1) hlt (by rw [m1, m2])
    · exact hp i i' (by simpa using l1) (by simpa using l2) hlt (by rw [m1, m2])
  rw [Nat.zero_add] at this
  exact this
end Go.Pv
