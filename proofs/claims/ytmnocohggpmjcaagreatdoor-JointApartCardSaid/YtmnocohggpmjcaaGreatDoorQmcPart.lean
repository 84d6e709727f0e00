/- The pure-value layer, part 50: calls that leave a map of their own, among whatever boxes. -/
import Derived.Test.YtmnocohggpmjcaaGreatDoorQlTop
import Derived.Test.YtmnocohggpmjcaaGreatDoorQmaWay
import Derived.Test.YtmnocohggpmjcaaGreatDoorQpHands
import Derived.Test.YtmnocohggpmjcaaGreatDoorQyWay
import Derived.Test.YtmnocohggpmjcaaGreatDoorQjKnown
set_option linter.all false
namespace Go.Pv
open Go Go.RowKit
theorem CallOk.mapAt {P : Program} {f : FuncId} {args : List PV} {id : Nat} {sg1 : List Box} {ks vs : List PV} (h : CallOk P f args [] (.ret (.mp id)) sg1) (hb1 : sg1[id]? = some (.map ks vs false)) (hlt : ∀ x ∈ args, Lt 0 x) (hck : ∀ c ∈ ks, Lt 0 c) (hcv : ∀ c ∈ vs, Lt 0 c) (sg : List Box) :
    CallOk P f args sg (.ret (.mp sg.length)) (sg ++ [.map ks vs false]) := by
  refine ⟨by simp, fun n G w us hR hL => ?_⟩
  let G0 : Gh := { w0 := w, S := G.S, SM := G.SM, rho := [], dfr := [] }
  have hR0 : Rel G0 [] w := ⟨Below.refl _ w, rfl, fun id s b hs => by simp [G0] at hs, fun i j s s' g _ hs => by simp [G0] at hs, hR.st, hR.stM, (fun b hb => by cases hb), hR.tab.mono hR.below⟩
  have hL0 : RepL G0 args us := ⟨hL.1, fun j c u hc hu => Rep.lower (G := G) (G' := G0) (m := 0) (fun _ _ _ e => e) (fun _ _ e => e) (fun id h => by omega) (hL.2 j c u hc hu) (hlt c (List.mem_of_getElem? hc))⟩
  refine CallsIn.mono (h.2 n G0 w us hR0 hL0) fun x w' ⟨G0', hR0', hl0, hdf0, hm⟩ => ?_
  cases x with
  | panicked ch => exact hm.elim
  | outgrown => exact hm.elim
  | returned u =>
  have hm' : Rep G0' (.mp id) u := hm
  have hw0 : G0'.w0 = w := hl0.w0
  have hbel : Below w.heap.size w w' := by have := hR0'.below; rw [hw0] at this; exact this
  obtain ⟨g, rfl, hrho⟩ : ∃ g, u = .map (some g) ∧ G0'.rho[id]? = some (.blk g) := by cases hm'; exact ⟨_, rfl, ‹_›⟩
  obtain ⟨hB, hSM, es, c, ls, hh, hp, lk, lv, rk, rv, born, old⟩ := hR0'.box id _ _ hrho hb1
  rw [hw0] at hB
  have hlen := hR.len
  let G' : Gh := { w0 := G.w0, S := G0'.S, SM := G0'.SM, rho := G.rho ++ [.blk g], dfr := G.dfr }
  have hle : G.le G' := ⟨rfl, hl0.S, hl0.SM, fun g o hg => hl0.old g o (Nat.lt_of_lt_of_le hg hR.base_le), fun g hg => hl0.oldM g (Nat.lt_of_lt_of_le hg hR.base_le), fun id s hs =>
    ⟨s, by show (G.rho ++ [_])[id]? = _; rw [List.getElem?_append_left (List.getElem?_eq_some_iff.1 hs).1]; exact hs, s.le_refl⟩⟩
  have hRk := hR.keep hbel
  have hnew : G'.rho[sg.length]? = some (.blk g) := by show (G.rho ++ [_])[_]? = _; rw [← hlen]; simp
  have lim : ∀ (id : Nat) (s : Slot) (q : Nat), G.rho[id]? = some s → s.block = some q → q < w.heap.size := fun id s q hs hq => by
    obtain ⟨b, _, hbk⟩ := hR.slotBox hs
    exact (hbk.blk hq).2
  have split : ∀ (id : Nat) (s : Slot), (G.rho ++ [Slot.blk g])[id]? = some s → G.rho[id]? = some s ∨ (id = sg.length ∧ s = .blk g) := fun id s hs => by
    by_cases hid : id < G.rho.length
    · rw [List.getElem?_append_left hid] at hs; exact .inl hs
    · rw [List.getElem?_append_right (by omega)] at hs
      have hlt := (List.getElem?_eq_some_iff.1 hs).1
      simp at hlt
      have e0 : id - G.rho.length = 0 := by omega
      rw [e0] at hs
      cases hs
      exact .inr ⟨by omega, rfl⟩
  refine ⟨G', ⟨hRk.below, by show (G.rho ++ [_]).length = _; simp [hlen], fun id s b hs hb => ?_, fun i j s s' gg hij hs hs' hgb hgb' => ?_, hR0'.st, hR0'.stM, hRk.dfr, hR.tab⟩, hle.leM _, rfl, .mp hnew⟩
  · rcases split id s hs with hs' | ⟨rfl, rfl⟩
    · have hid := (List.getElem?_eq_some_iff.1 hs').1
      rw [List.getElem?_append_left (by omega)] at hb
      have hb0 := hR.box id s b hs' hb
      exact (hRk.box id s b hs' hb).keep (Nat.le_refl _) (fun _ _ r => r.mono hle) rfl (fun _ _ => rfl) (fun g hg o e => by
        have := hl0.old g o (hb0.blk hg).2
        show G0'.S g o = none
        rw [this]; exact e) (fun g hg e => by
        have := hl0.oldM g (hb0.blk hg).2
        show G0'.SM g = none
        rw [this]; exact e) (fun _ e => e)
    · rw [List.getElem?_append_right (Nat.le_refl _), Nat.sub_self] at hb
      cases hb
      refine ⟨Nat.le_trans hR.base_le hB, hSM, es, c, ls, hh, hp, lk, lv, fun j e k hj hk => ?_, fun j e v hj hv => ?_, born, old⟩
      · exact Rep.lower (G := G0') (G' := G') (m := 0) (fun _ _ _ e => e) (fun _ _ e => e) (fun id h => by omega) (rk j e k hj hk) (hck k (List.mem_of_getElem? hk))
      · exact Rep.lower (G := G0') (G' := G') (m := 0) (fun _ _ _ e => e) (fun _ _ e => e) (fun id h => by omega) (rv j e v hj hv) (hcv v (List.mem_of_getElem? hv))
  · rcases split i s hs with h1 | ⟨rfl, rfl⟩ <;> rcases split j s' hs' with h2 | ⟨rfl, rfl⟩
    · exact hR.inj i j s s' gg hij h1 h2 hgb hgb'
    · cases hgb'
      have := lim i s g h1 hgb
      omega
    · cases hgb
      have := lim j s' g h2 hgb'
      omega
    · exact absurd rfl hij
end Go.Pv
namespace Go.Pv
open Go Go.RowKit Go.Proofs
/-- What was met, and the poses with which parts begin. -/
structure Prt where
  ks : List (List Int)
  rs : List (List Int)
def newK (A M : List (List Int)) : List (List Int) := M.filter fun k => !A.contains k
def keysG (s : Int) (ls : List Lb) (g : Stg) (x : List Int) : List (List Int) := (awayG s ls g x).map Prod.fst
def prtStep (s : Int) (ls : List Lb) (g : Stg) (S : Prt) (x : List Int) : Prt := if S.ks.contains x = true then S else ⟨S.ks ++ newK S.ks (keysG s ls g x), S.rs ++ [x]⟩
def prtG (s : Int) (ls : List Lb) (g : Stg) (L : List (List Int)) : Prt := L.foldl (prtStep s ls g) ⟨[], []⟩
def partsG (s : Int) (ls : List Lb) (g : Stg) : Nat := (prtG s ls g (finesG s ls g)).rs.length
section
variable {s : Int} {ls : List Lb} {g : Stg}
theorem prt_snoc (L : List (List Int)) (x : List Int) : prtG s ls g (L ++ [x]) = prtStep s ls g (prtG s ls g L) x := by
  unfold prtG; rw [List.foldl_append]; rfl
theorem prt_take {L : List (List Int)} {i : Nat} {x : List Int} (h : L[i]? = some x) : prtG s ls g (L.take (i + 1)) = prtStep s ls g (prtG s ls g (L.take i)) x := by
  rw [List.take_add_one, h]; exact prt_snoc _ _
theorem mem_keys {x k : List Int} : k ∈ keysG s ls g x ↔ hasK (awayG s ls g x) k = true := hasK_keys.symm
theorem mem_new {A M : List (List Int)} {k : List Int} : k ∈ newK A M ↔ k ∈ M ∧ k ∉ A := by
  unfold newK
  rw [List.mem_filter]
  simp
theorem mem_add {A M : List (List Int)} {k : List Int} : k ∈ A ++ newK A M ↔ k ∈ A ∨ k ∈ M := by
  rw [List.mem_append, mem_new]
  constructor
  · rintro (h | ⟨h, _⟩)
    · exact .inl h
    · exact .inr h
  · rintro (h | h)
    · exact .inl h
    · by_cases ha : k ∈ A
      · exact .inl ha
      · exact .inr ⟨h, ha⟩
/-- What holds of the parts so far. -/
structure PrtOk (s : Int) (ls : List Lb) (g : Stg) (L : List (List Int)) (S : Prt) : Prop where
  nd : S.ks.Nodup
  fine : ∀ k ∈ S.ks, poseG ls k = true ∧ finG s ls g k = true
  cl : ∀ k ∈ S.ks, ∀ q ∈ nbG s ls g k, q ∈ S.ks
  all : ∀ x ∈ L, x ∈ S.ks
  of : ∀ k ∈ S.ks, ∃ r ∈ S.rs, hasK (awayG s ls g r) k = true
  rs : ∀ r ∈ S.rs, r ∈ L
  le : S.rs.length ≤ L.length
  zero : S.rs = [] → L = []
theorem prtStep_ok (hf : figB s ls = true) {L : List (List Int)} {S : Prt} {x : List Int} (hp : poseG ls x = true) (hfx : finG s ls g x = true) (h : PrtOk s ls g L S) : PrtOk s ls g (L ++ [x]) (prtStep s ls g S x) := by
  unfold prtStep
  split
  · rename_i hc
    have hx : x ∈ S.ks := by simpa using hc
    refine ⟨h.nd, h.fine, h.cl, fun y hy => ?_, h.of, fun r hr => List.mem_append_left _ (h.rs r hr), by have := h.le; simp; omega, fun e => ?_⟩
    · rcases List.mem_append.1 hy with hy | hy
      · exact h.all y hy
      · have : y = x := by simpa using hy
        subst this; exact hx
    · obtain ⟨r, hr, _⟩ := h.of x hx
      rw [e] at hr; cases hr
  · rename_i hc
    have hnx : x ∉ S.ks := by simpa using hc
    have H := away_srch (g := g) hf hp hfx
    refine ⟨?_, fun k hk => ?_, fun k hk q hq => ?_, fun y hy => ?_, fun k hk => ?_, fun r hr => ?_, by have := h.le; simp; omega, fun e => ?_⟩
    · show (S.ks ++ newK S.ks (keysG s ls g x)).Nodup
      rw [List.nodup_append]
      refine ⟨h.nd, List.Nodup.sublist List.filter_sublist H.nd, fun a ha b hb e => ?_⟩
      subst e
      exact (mem_new.1 hb).2 ha
    · rcases mem_add.1 hk with hk | hk
      · exact h.fine k hk
      · exact met_fine hf hp hfx (mem_keys.1 hk)
    · rcases mem_add.1 hk with hk | hk
      · exact mem_add.2 (.inl (h.cl k hk q hq))
      · obtain ⟨e, he⟩ := hasK_iff.1 (mem_keys.1 hk)
        obtain ⟨e', h1, _⟩ := H.next _ he q hq
        exact mem_add.2 (.inr (mem_keys.2 (hasK_iff.2 ⟨e', h1⟩)))
    · rcases List.mem_append.1 hy with hy | hy
      · exact mem_add.2 (.inl (h.all y hy))
      · have : y = x := by simpa using hy
        subst this
        exact mem_add.2 (.inr (mem_keys.2 (hasK_iff.2 ⟨0, away_start⟩)))
    · rcases mem_add.1 hk with hk | hk
      · obtain ⟨r, hr, h1⟩ := h.of k hk
        exact ⟨r, List.mem_append_left _ hr, h1⟩
      · exact ⟨x, List.mem_append_right _ (List.mem_singleton.2 rfl), mem_keys.1 hk⟩
    · rcases List.mem_append.1 hr with hr | hr
      · exact List.mem_append_left _ (h.rs r hr)
      · exact List.mem_append_right _ hr
    · simp at e
theorem prt_ok (hf : figB s ls = true) : ∀ (n : Nat) (L : List (List Int)), L.length = n → (∀ x ∈ L, poseG ls x = true ∧ finG s ls g x = true) → PrtOk s ls g L (prtG s ls g L)
  | 0, L, hn, _ => by
    obtain rfl := List.length_eq_zero_iff.1 hn
    exact ⟨List.nodup_nil, fun k hk => (by cases hk), fun k hk => (by cases hk), fun k hk => (by cases hk), fun k hk => (by cases hk), fun k hk => (by cases hk), Nat.le_refl _, fun _ => rfl⟩
  | n + 1, L, hn, hL => by
    have hne : L ≠ [] := fun e => by rw [e] at hn; cases hn
    obtain ⟨L', z, rfl⟩ : ∃ L' z, L = L' ++ [z] := ⟨L.dropLast, L.getLast hne, (List.dropLast_concat_getLast hne).symm⟩
    rw [prt_snoc]
    have hz := hL z (by simp)
    exact prtStep_ok hf hz.1 hz.2 (prt_ok hf n L' (by simpa using hn) fun x hx => hL x (by simp [hx]))
theorem mem_fines {l : List Int} : l ∈ finesG s ls g ↔ poseG ls l = true ∧ finG s ls g l = true := by
  unfold finesG
  rw [List.mem_filter, mem_poses]
theorem parts_ok (hf : figB s ls = true) (i : Nat) : PrtOk s ls g ((finesG s ls g).take i) (prtG s ls g ((finesG s ls g).take i)) :=
  prt_ok hf _ _ rfl fun x hx => mem_fines.1 (List.mem_of_mem_take hx)
theorem parts_all (hf : figB s ls = true) : PrtOk s ls g (finesG s ls g) (prtG s ls g (finesG s ls g)) := prt_ok hf _ _ rfl fun x hx => mem_fines.1 hx
/-- Nothing that was met before is met again. -/
theorem new_all (hf : figB s ls = true) {L : List (List Int)} {S : Prt} {x : List Int} (h : PrtOk s ls g L S) (hp : poseG ls x = true) (hfx : finG s ls g x = true) (hx : x ∉ S.ks) {k : List Int} (hk : hasK (awayG s ls g x) k = true) : k ∉ S.ks := by
  intro hks
  obtain ⟨m0, _, hw0⟩ := way_met hf hp hfx hk
  have hw := way_back hp hfx hw0
  have : ∀ (n : Nat) (y : List Int), y ∈ S.ks → WayN s ls g n y x → x ∈ S.ks := by
    intro n
    induction n with
    | zero => intro y hy hw; obtain rfl : y = x := hw; exact hy
    | succ n ih => rintro y hy ⟨c, h1, h2⟩; exact ih c (h.cl y hy c h1) h2
  exact hx (this _ _ hks hw)
theorem newK_eq (hf : figB s ls = true) {L : List (List Int)} {S : Prt} {x : List Int} (h : PrtOk s ls g L S) (hp : poseG ls x = true) (hfx : finG s ls g x = true) (hx : x ∉ S.ks) : newK S.ks (keysG s ls g x) = keysG s ls g x := by
  unfold newK
  rw [List.filter_eq_self]
  intro k hk
  simpa using new_all hf h hp hfx hx (mem_keys.1 hk)
theorem part_le (hf : figB s ls = true) : partsG s ls g ≤ (finesG s ls g).length := (parts_all hf).le
theorem part_zero (hf : figB s ls = true) : partsG s ls g = 0 ↔ finesG s ls g = [] := by
  unfold partsG
  rw [List.length_eq_zero_iff]
  constructor
  · exact (parts_all hf).zero
  · intro h; rw [h]; rfl
/-- Both in one part: a way leads from the one to the other. -/
theorem part_same (hf : figB s ls = true) {r a b : List Int} (hr : poseG ls r = true) (hfr : finG s ls g r = true) (ha : hasK (awayG s ls g r) a = true) (hb : hasK (awayG s ls g r) b = true) : hasK (awayG s ls g b) a = true := by
  have h1 := met_fine hf hr hfr hb
  exact met_trans hf h1.1 h1.2 hr hfr hb ha
theorem part_rep (hf : figB s ls = true) {a : List Int} (ha : poseG ls a = true) (hfa : finG s ls g a = true) : ∃ r ∈ (prtG s ls g (finesG s ls g)).rs, poseG ls r = true ∧ finG s ls g r = true ∧ hasK (awayG s ls g r) a = true := by
  have H := parts_all (g := g) hf
  obtain ⟨r, h1, h2⟩ := H.of a (H.all a (mem_fines.2 ⟨ha, hfa⟩))
  have := mem_fines.1 (H.rs r h1)
  exact ⟨r, h1, this.1, this.2, h2⟩
theorem part_one (hf : figB s ls = true) (h1 : partsG s ls g = 1) {a b : List Int} (ha : poseG ls a = true) (hfa : finG s ls g a = true) (hb : poseG ls b = true) (hfb : finG s ls g b = true) : hasK (awayG s ls g b) a = true := by
  obtain ⟨r, m1, p1, f1, k1⟩ := part_rep hf ha hfa
  obtain ⟨q, m2, p2, f2, k2⟩ := part_rep hf hb hfb
  unfold partsG at h1
  obtain ⟨z, hz⟩ := List.length_eq_one_iff.1 h1
  rw [hz] at m1 m2
  have e1 : r = z := by simpa using m1
  have e2 : q = z := by simpa using m2
  subst e1; subst e2
  exact part_same hf p1 f1 k1 k2
theorem part_two (hf : figB s ls = true) (h2 : partsG s ls g ≤ 2) {a b c : List Int} (ha : poseG ls a = true) (hfa : finG s ls g a = true) (hb : poseG ls b = true) (hfb : finG s ls g b = true) (hc : poseG ls c = true) (hfc : finG s ls g c = true) :
    hasK (awayG s ls g b) a = true ∨ hasK (awayG s ls g c) b = true ∨ hasK (awayG s ls g c) a = true := by
  obtain ⟨r1, m1, p1, f1, k1⟩ := part_rep hf ha hfa
  obtain ⟨r2, m2, p2, f2, k2⟩ := part_rep hf hb hfb
  obtain ⟨r3, m3, p3, f3, k3⟩ := part_rep hf hc hfc
  unfold partsG at h2
  have : r1 = r2 ∨ r2 = r3 ∨ r1 = r3 := by
    cases hl : (prtG s ls g (finesG s ls g)).rs with
    | nil => rw [hl] at m1; cases m1
    | cons x r =>
      cases r with
      | nil =>
        rw [hl] at m1 m2
        simp at m1 m2
        exact .inl (m1.trans m2.symm)
      | cons y r =>
        cases r with
        | cons z r => rw [hl] at h2; simp at h2
        | nil =>
          rw [hl] at m1 m2 m3
          simp at m1 m2 m3
          rcases m1 with m1 | m1 <;> rcases m2 with m2 | m2 <;> rcases m3 with m3 | m3 <;> subst m1 <;> subst m2 <;> subst m3 <;> simp
  rcases this with rfl | rfl | rfl
  · exact .inl (part_same hf p1 f1 k1 k2)
  · exact .inr (.inl (part_same hf p2 f2 k2 k3))
  · exact .inr (.inr (part_same hf p1 f1 k1 k3))
end
end Go.Pv
namespace Go.Pv
open Go Go.RowKit Go.Proofs
set_option maxRecDepth 10000
set_option maxHeartbeats 4000000
/-- A pose as a key. -/
def k5 (l : List Int) : K5 := (l.getD 0 0, l.getD 1 0, l.getD 2 0, l.getD 3 0, l.getD 4 0)
theorem keyP_k5 (l : List Int) : keyP l = encK (k5 l) := rfl
theorem k5_inj {a b : List Int} (hl : a.length = b.length) (h5 : a.length ≤ 5) (h : k5 a = k5 b) : a = b := keyP_inj hl h5 (by rw [keyP_k5, keyP_k5, h])
/-- The search as a table: it leaves its map. -/
def c98m : List PV → List Box → Option (PRes × List Box)
  | [.agg cs, p], sg => match decSt cs, decIs1 p with
    | some (s, z, zh, zr, ls, g), some f => if stB s z zh zr ls g = true ∧ poseG ls f = true then some (.ret (.mp sg.length), sg ++ [.map (mpK (awayG s ls g f)) (mpV (awayG s ls g f)) false]) else none
    | _, _ => none
  | _, _ => none
theorem c98m_ok : ConOk Tryz.prog 98 c98m := fun args sg r sg' h => by
  unfold c98m at h
  split at h <;> try (cases h; done)
  split at h <;> try (cases h; done)
  rename_i h1 h2
  split at h <;> cases h
  rename_i hc
  obtain rfl := decSt_inv h1
  obtain ⟨zp, rfl, hp⟩ := decIs1_inv h2
  have H := stB_iff.1 hc.1
  have hl := H.len
  have hll := (pose_at hc.2).1
  obtain ⟨v, sg1, h3, id, rfl, hb⟩ := away_98e H _ hc.2
  have hz : zp ≠ .n := fun e => by rw [hp e] at hll; simp at hll; omega
  have h4 := h3.argA2 hz
  refine ⟨ent Tryz.func98 rfl, h4.mapAt hb (lt_of_ltBL 0 _ (by rw [ltBL_cons, ltB_st, ltBL_cons, ltB_isl]; rfl)) (fun c hc => lt_of_closedL _ (mpKc _) c hc) (fun c hc => lt_of_closedL _ (mpVc _) c hc) sg, (SameLoops.refl sg).app [_] rfl⟩
theorem RunQ.union {cf : CallF} (hcf : CallFOk Tryz.prog cf) {os : Array Oper} {b : Code} {x y z : List Oper} {a0 a1 a2 a3 : Oper} {m : Nat → Mt} {st st1 st2 st3 : St} {Q : Out → St → Prop} (hb : bodyU b = some (x, y, z)) (hos : os.toList = [a0, a1, a2, a3]) (hm : opsU x y z a3 = some m)
    (w0 : wantC os st.tm a0 = some true) (e0 : evOp noM cf noY TT st a0 = some (.normal, st1)) (w1 : wantC os st1.tm a1 = some true) (e1 : evOp noM cf noY TT st1 a1 = some (.normal, st2)) (w2 : wantC os st2.tm a2 = some true) (e2 : evOp noM cf noY TT st2 a2 = some (.normal, st3))
    {idm idt b7 : Nat} {M A : List K5} {vsm : List PV} {fz f7 : Bool} (h35 : getT st3.tm 35 = some (.mp idm)) (hbm : st3.sg[idm]? = some (.map (M.map encK) vsm fz)) (hvb : ∀ v ∈ vsm, v.ltB 0 = true) (h7 : getT st3.tm 7 = some (.bp b7 0)) (hb7 : st3.sg[b7]? = some (.var [.mp idt] f7))
    (hbt : st3.sg[idt]? = some (.map (A.map encK) (A.map fun _ => .bool true) false)) (hne : idm ≠ idt) (hA : A.Nodup) (hM : M.Nodup) (hn : 42 < st3.n) (hbx : ∀ b ∈ st3.sg, b.Lt st3.sg.length) (htl : ∀ t v, getT (dropT tmU st3.tm) t = some v → Lt st3.sg.length v)
    (hq : Q .normal ⟨dropT tmU st3.tm, st3.n, (st3.sg.set idm (.map (M.map encK) vsm true)).set idt (.map ((nextB A M).map encK) ((nextB A M).map fun _ => .bool true) false)⟩) :
    RunQ Tryz.prog (.seq (.region 10 os false) (.block 2 (.loop b))) st Q := by
  refine ⟨.normal, _, ?_, hq⟩
  obtain ⟨rfl, rfl, rfl, rfl⟩ := opsU_inv hm
  have hbody := bodyU_inv hb
  have r0 := evOp_ok (P := Tryz.prog) hTT hcf noY_ok noM_ok e0
  have r1 := evOp_ok (P := Tryz.prog) hTT hcf noY_ok noM_ok e1
  have r2 := evOp_ok (P := Tryz.prog) hTT hcf noY_ok noM_ok e2
  have hget : ∀ j o, [a0, a1, a2, mkO m 9 (some 36) (.range 144 (.tmp 35))][j]? = some o → os[j]? = some o := fun j o h => by
    rw [← hos, Array.getElem?_toList] at h; exact h
  have hlen : st.sg.length ≤ st3.sg.length := Nat.le_trans r0.1 (Nat.le_trans r1.1 r2.1)
  refine ⟨by simpa using hlen, fun r n G a w db Q hs k => wpIn_seq (wpIn_region ?_)⟩
  have hsz : os.size = 4 := by rw [← Array.length_toList, hos]; rfl
  rw [hsz]
  show wpOpsIn _ n _ os _ [0, 1, 2, 3] a w
  refine wpOps_consK hTT (hget 0 a0 rfl) w0 r0 hs fun a' w' G1 hs1 hl1 => ?_
  refine wpOps_consK hTT (hget 1 a1 rfl) w1 r1 hs1 fun a' w' G2 hs2 hl2 => ?_
  refine wpOps_consK hTT (hget 2 a2 rfl) w2 r2 hs2 fun a' w' G3 hs3 hl3 => ?_
  rw [hbody]
  refine union_ok (m := m) (hget 3 _ rfl) h35 hbm hvb h7 hb7 hbt hne hA hM hn hbx htl hs3 fun a4 w4 G4 hs4 hl4 => ?_
  exact k .normal a4 w4 G4 trivial hs4 (((hl1.trans hl2 r0.1).trans hl3 (Nat.le_trans r0.1 r1.1)).trans hl4 hlen)
end Go.Pv
