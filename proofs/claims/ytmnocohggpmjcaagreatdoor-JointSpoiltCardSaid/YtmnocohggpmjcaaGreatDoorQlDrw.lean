/- The pure-value layer, part 50: a region that draws its order, in which one call panics. -/
import Derived.Test.YtmnocohggpmjcaaGreatDoorQlTop
set_option linter.all false
namespace Go.Pv
open Go Go.RowKit
section
variable {P : Program} {T : TypeId → TyI} {ora : Ora} {ops : Array Oper}
theorem draw_invP (hT : TyT P T) {ora0 : Ora} (hora0 : OraOk P ora0) {st : St} {rs : List DRec} (hl : rs.length = ops.size) (hst : statOk ops = true) (htxt : TxtOk P ora T ops (ops.toList.zip rs) st) (hbx : boxOk ops rs = true)
    {jp : Nat} {op0 : Oper} (hj0 : ops[jp]? = some op0) {v : PV} (hora : ∀ (j : Nat) (o : Oper), ops[j]? = some o → j ≠ jp → ∀ (tm : List (Nat × PV)) (sg : List Box) (fid : Nat), opD ora T tm sg fid o.op = opD ora0 T tm sg fid o.op)
    (hpan : ∀ st' : St, st'.n = st.n → (∀ t ∈ lookT ops op0, getT st'.tm t = getT (foldS (fun i => decide (i < 0 + jp)) 0 (ops.toList.zip rs) st).tm t) → RunOp P op0 st' (.panic v) st') (hnf : ∀ rc, rs[jp]? = some rc → rc.full = none ∧ rc.want = true)
    {r : Option Nat} {n : Nat} {G : Gh} {db : DB} {Q : Exit → Act → World → Prop}
    (k : ∀ e a' w' G' S, ExitOk G' (.panic v) e → RelS G' (foldS S 0 (ops.toList.zip rs) st) a' w' r db → Gh.leM st.sg.length G G' → Q e a' w') :
    ∀ (fuel : Nat) (listed : Array Bool) (G1 : Gh) (a : Act) (w : World), listed.size = ops.size → (∀ j, listed.getD j false = true → Down ops (fun i => listed.getD i false) j) → listed.getD jp false = false → cnt (fun i => listed.getD i false) ops.size ≤ fuel →
      RelS G1 (foldS (fun i => listed.getD i false) 0 (ops.toList.zip rs) st) a w r db → Gh.leM st.sg.length G G1 → wpAnyIn (FW r) n P .any ops Q fuel listed a w := by
  have hback := stat_back hst
  have pget : ∀ {j : Nat} {p : Oper × DRec}, (ops.toList.zip rs)[j]? = some p ↔ ops[j]? = some p.1 ∧ rs[j]? = some p.2 := fun {j p} => by rw [zip_get]; simp
  have fn_eq : ∀ S : Nat → Bool, (foldS S 0 (ops.toList.zip rs) st).n = st.n := fun S => foldS_n S _ 0 st (fun p hp s hs => (txt_full _ st htxt p hp s hs).1) rfl
  have fn_ge : ∀ S : Nat → Bool, st.sg.length ≤ (foldS S 0 (ops.toList.zip rs) st).sg.length := fun S => foldS_ge S _ 0 st (fun p hp s hs => (txt_full _ st htxt p hp s hs).2) (Nat.le_refl _)
  have hjn0 : jp < ops.size := (Array.getElem?_eq_some_iff.1 hj0).1
  have noready : ∀ (listed : Array Bool), listed.size = ops.size → Region.ready .any ops listed = [] → ∀ i, i < ops.size → listed.getD i false = true := by
    intro listed hsz hr i
    induction i using Nat.strongRecOn with
    | _ i ih =>
      intro hi
      cases hli : listed.getD i false with
      | true => rfl
      | false =>
        have : i ∈ Region.ready .any ops listed := by
          refine mem_ready.2 ⟨?_, ops[i], Array.getElem?_eq_getElem hi, fun e he hb => ?_⟩
          · have hi' : i < listed.size := by omega
            simpa [Array.getD_eq_getD_getElem?, hi'] using hli
          · have := hback i ops[i] (Array.getElem?_eq_getElem hi) e he hb
            exact ih e.on this (by omega)
        rw [hr] at this
        cases this
  intro fuel
  induction fuel with
  | zero =>
    intro listed G1 a w hsz hdown hjf hc hS hle
    have := cnt_zero (Nat.le_zero.1 hc) jp hjn0
    rw [hjf] at this
    cases this
  | succ fuel ih =>
    intro listed G1 a w hsz hdown hjf hc hS hle
    refine ⟨fun hr => absurd (noready listed hsz hr jp hjn0) (by rw [hjf]; simp), fun j hj => ?_⟩
    obtain ⟨h0, o, ho, hafter⟩ := mem_ready.1 hj
    have hjn := (Array.getElem?_eq_some_iff.1 ho).1
    have hj' : j < listed.size := by omega
    have hSj : listed.getD j false = false := by
      simpa [Array.getD_eq_getD_getElem?, hj'] using h0
    have hrj : ∃ rc, rs[j]? = some rc := ⟨rs[j], List.getElem?_eq_getElem (by omega)⟩
    obtain ⟨rc, hrc⟩ := hrj
    have hpj : (ops.toList.zip rs)[j]? = some (o, rc) := pget.2 ⟨ho, hrc⟩
    have hDj : Down ops (fun i => listed.getD i false) j := fun o' ho' e he hb => by
      rw [ho] at ho'; cases ho'; exact hafter e he hb
    -- who meets j, and where
    have before : ∀ (i m : Nat), (prGo ops.toList [])[j]? = some m → m.testBit i = true → listed.getD i false = true := fun i m hm hb => down_bits hback hdown j o m i ho hDj hm hb
    have behind : ∀ (i m : Nat) (p : Oper), ops[i]? = some p → (prGo ops.toList [])[i]? = some m → m.testBit j = true → listed.getD i false = false := fun i m p hp hm hb => by
      cases hli : listed.getD i false with
      | false => rfl
      | true =>
        have := down_bits hback hdown i p m j hp (hdown i hli) hm hb
        rw [hSj] at this
        cases this
    have meetT : ∀ (i : Nat) (p : Oper), ops[i]? = some p → (i < j → confT ops p o = true) → (j < i → confT ops o p = true) → listed.getD i false = decide (i < j) := fun i p hp h1 h2 => by
      rcases Nat.lt_trichotomy i j with h | h | h
      · obtain ⟨m, hm, hb⟩ := stat_conf hst hp ho h (h1 h)
        rw [before i m hm hb]; simp [h]
      · subst h; rw [hSj]; simp
      · obtain ⟨m, hm, hb⟩ := stat_conf hst ho hp h (h2 h)
        rw [behind i m p hp hm hb]
        have : ¬ i < j := by omega
        simp [this]
    have meetB : ∀ (i : Nat) (p : Oper) (q : DRec), ops[i]? = some p → rs[i]? = some q → (i < j → confB q rc = true) → (j < i → confB rc q = true) → listed.getD i false = decide (i < j) := fun i p q hp hq h1 h2 => by
      rcases Nat.lt_trichotomy i j with h | h | h
      · obtain ⟨m, hm, hb⟩ := box_conf hbx hq hrc hjn h (h1 h)
        rw [before i m hm hb]; simp [h]
      · subst h; rw [hSj]; simp
      · obtain ⟨m, hm, hb⟩ := box_conf hbx hrc hq (Array.getElem?_eq_some_iff.1 hp).1 h (h2 h)
        rw [behind i m p hp hm hb]
        have : ¬ i < j := by omega
        simp [this]
    have hE := txt_at (P := P) (ora := ora) (T := T) (ops := ops) _ 0 st j (o, rc) htxt hpj
    have meetF : ∀ (i : Nat) (p : Oper) (q : DRec), ops[i]? = some p → rs[i]? = some q → (isFull rc = true ∨ isFull q = true) → listed.getD i false = decide (i < j) := fun i p q hp hq hc => by
      refine meetB i p q hp hq (fun _ => ?_) (fun _ => ?_) <;> rcases hc with h | h <;> simp [confB, h]
    have wr_T : ∀ (i : Nat) (p : Oper × DRec) (t : Nat), (ops.toList.zip rs)[i]? = some p → (p.1.dst = some t ∨ isFull p.2 = true) → t ∈ lookT ops o → listed.getD i false = decide (i < j) := fun i p t hp hd ht => by
      rcases hd with hd | hd
      · have hmem : memO p.1.dst (lookT ops o) = true := memO_iff.2 ⟨t, hd, ht⟩
        exact meetT i p.1 (pget.1 hp).1 (fun _ => by simp [confT, hmem]) (fun _ => by simp [confT, hmem])
      · exact meetF i p.1 p.2 (pget.1 hp).1 (pget.1 hp).2 (.inr hd)
    have wr_B : ∀ (i : Nat) (p : Oper × DRec) (id : Nat), (ops.toList.zip rs)[i]? = some p → (wid p.2 = some id ∨ isFull p.2 = true) → id ∈ rc.rb → listed.getD i false = decide (i < j) := fun i p id hp hd ht => by
      rcases hd with hd | hd
      · have hmem : memO (wid p.2) rc.rb = true := memO_iff.2 ⟨id, hd, ht⟩
        exact meetB i p.1 p.2 (pget.1 hp).1 (pget.1 hp).2 (fun _ => by simp [confB, hmem]) (fun _ => by simp [confB, hmem])
      · exact meetF i p.1 p.2 (pget.1 hp).1 (pget.1 hp).2 (.inr hd)
    have hset : (fun i => (listed.setIfInBounds j true).getD i false) = fun i => listed.getD i false || i == j := by
      funext i
      by_cases hij : i = j
      · subst hij
        simp [Array.getD_eq_getD_getElem?, hj']
      · have h2 : (i == j) = false := by simpa using hij
        rw [h2, Bool.or_false]
        simp [Array.getD_eq_getD_getElem?, Array.getElem?_setIfInBounds_ne (Ne.symm hij)]
    have next : j ≠ jp → ∀ (G2 : Gh) (a' : Act) (w' : World), RelS G2 (app o rc (foldS (fun i => listed.getD i false) 0 (ops.toList.zip rs) st)) a' w' r db → Gh.leM st.sg.length G1 G2 → wpAnyIn (FW r) n P .any ops Q fuel (listed.setIfInBounds j true) a' w' := by
      intro hjne G2 a' w' hS2 hle2
      refine ih _ G2 a' w' (by simpa using hsz) ?_ (by rw [Array.getD_eq_getD_getElem?, Array.getElem?_setIfInBounds_ne hjne, ← Array.getD_eq_getD_getElem?]; exact hjf) ?_ ?_ (hle.trans hle2 (Nat.le_refl _))
      · intro i hi
        have hi' : (listed.getD i false || i == j) = true := by rw [← congrFun hset i]; exact hi
        rw [hset]
        intro o' ho' e he hb
        rw [Bool.or_eq_true] at hi'
        rcases hi' with h | h
        · have := hdown i h o' ho' e he hb
          simp only at this
          simp [this]
        · have hij : i = j := by simpa using h
          subst hij
          have := hDj o' ho' e he hb
          simp only at this
          simp [this]
      · rw [hset]
        have := cnt_add (f := fun i => listed.getD i false) (j := j) hSj (n := ops.size)
        rw [if_pos hjn] at this
        omega
      · rw [hset]
        refine hS2.congr (fun t => ?_) (fun id => ?_) ?_
        · refine foldS_add_tm _ 0 st (Nat.zero_le _) hpj hSj fun i p hp hlt hc => ?_
          simp only [Nat.zero_add] at hlt ⊢
          have : listed.getD i false = decide (i < j) := by
            rcases hc with hc | hc | ⟨hd, hdp⟩
            · exact meetF i p.1 p.2 (pget.1 hp).1 (pget.1 hp).2 (.inl hc)
            · exact meetF i p.1 p.2 (pget.1 hp).1 (pget.1 hp).2 (.inr hc)
            · have heq : eqO o.dst p.1.dst = true := eqO_iff.2 ⟨t, hd, hdp⟩
              exact meetT i p.1 (pget.1 hp).1 (fun h => by omega) (fun _ => by simp [confT, heq])
          rw [this]; simp; omega
        · refine foldS_add_sg _ 0 st (Nat.zero_le _) hpj hSj fun i p hp hlt hc => ?_
          simp only [Nat.zero_add] at hlt ⊢
          have : listed.getD i false = decide (i < j) := by
            rcases hc with hc | hc | ⟨hd, hdp⟩
            · exact meetF i p.1 p.2 (pget.1 hp).1 (pget.1 hp).2 (.inl hc)
            · exact meetF i p.1 p.2 (pget.1 hp).1 (pget.1 hp).2 (.inr hc)
            · have heq : eqO (wid rc) (wid p.2) = true := eqO_iff.2 ⟨id, hd, hdp⟩
              exact meetB i p.1 p.2 (pget.1 hp).1 (pget.1 hp).2 (fun h => by omega) (fun _ => by simp [confB, heq])
          rw [this]; simp; omega
        · rw [fn_eq]
          cases hf : rc.full with
          | some s => rw [app_full hf]; exact (txt_full _ st htxt (o, rc) (List.mem_of_getElem? hpj) s hf).1.symm
          | none => unfold app; rw [hf]; exact (fn_eq _).symm
    have hsame : ∀ t, (t ∈ lookT ops o ∨ isFull rc = true) → getT (foldS (fun i => listed.getD i false) 0 (ops.toList.zip rs) st).tm t = getT (foldS (fun i => decide (i < 0 + j)) 0 (ops.toList.zip rs) st).tm t := fun t ht => by
      refine foldS_tm _ 0 st st (fun i p hp hd => ?_) rfl
      simp only [Nat.zero_add]
      rcases ht with ht | ht
      · exact wr_T i p t hp hd ht
      · exact meetF i p.1 p.2 (pget.1 hp).1 (pget.1 hp).2 (.inl ht)
    have hsameB : ∀ id : Nat, (id ∈ rc.rb ∨ isFull rc = true) → (foldS (fun i => listed.getD i false) 0 (ops.toList.zip rs) st).sg[id]? = (foldS (fun i => decide (i < 0 + j)) 0 (ops.toList.zip rs) st).sg[id]? := fun id hid => by
      refine foldS_sg _ 0 st st (fun i p hp hd => ?_) rfl rfl
      simp only [Nat.zero_add]
      rcases hid with hid | hid
      · exact wr_B i p id hp hd hid
      · exact meetF i p.1 p.2 (pget.1 hp).1 (pget.1 hp).2 (.inl hid)
    have hlen0 := fn_ge fun i => listed.getD i false
    by_cases hjj : j = jp
    · subst hjj
      obtain rfl : o = op0 := Option.some.inj (ho.symm.trans hj0)
      obtain ⟨n1, n2⟩ := hnf rc hrc
      have hEv : EvAt P ora T ops (foldS (fun i => listed.getD i false) 0 (ops.toList.zip rs) st) o rc :=
        evAt_local n1 hE (by rw [fn_eq, fn_eq]) (fun t ht => hsame t (.inl ht)) (fun id hid => hsameB id (.inl hid))
      have hwt := want_ok hS.tm (hEv.2 n1).2.1
      rw [n2] at hwt
      unfold wpOpIn
      simp only [ho]
      rw [if_pos hwt]
      refine (hpan _ (fn_eq _) fun t ht => hsame t (.inl ht)).2 r n G1 a w db _ Q hS fun e a' w' G' he hs' hl' => .inr ⟨?_, k e a' w' G' _ he hs' (hle.trans (hl'.less hlen0) (Nat.le_refl _))⟩
      rintro rfl
      exact he.elim
    have next := next hjj
    unfold wpOpIn
    simp only [ho]
    cases hf : rc.full with
    | some s =>
      have hfb := isFull_some hf
      obtain ⟨f1, f2, f3, f4⟩ := hE.1 s hf
      have hS' : RelS G1 (foldS (fun i => decide (i < 0 + j)) 0 (ops.toList.zip rs) st) a w r db := hS.congr (fun t => (hsame t (.inr hfb)).symm) (fun id => (hsameB id (.inr hfb)).symm) (by rw [fn_eq, fn_eq])
      have hwt := want_ok hS'.tm f2
      rw [if_pos hwt]
      refine f4.2 r n G1 a w db _ Q hS' fun e a' w' G' he hs' hl' => .inl ⟨he.normal', ?_⟩
      refine next G' a' w' ?_ (hl'.less (fn_ge _))
      rw [app_full hf]
      exact hs'
    | none =>
    have hEv : EvAt P ora T ops (foldS (fun i => listed.getD i false) 0 (ops.toList.zip rs) st) o rc :=
      evAt_local hf hE (by rw [fn_eq, fn_eq]) (fun t ht => hsame t (.inl ht)) (fun id hid => hsameB id (.inl hid))
    have happ : ∀ st : St, app o rc st = { tm := putD st.tm o.dst rc.v, n := st.n, sg := setE st.sg rc.ef } := fun st => by unfold app; rw [hf]
    obtain ⟨e1, e2, e3, e4, e5⟩ := hEv.2 hf
    have hwt := want_ok hS.tm e2
    cases hw : rc.want with
    | true =>
      rw [hw] at hwt
      rw [if_pos hwt]
      obtain ⟨q1, q2, q3⟩ := e4 hw
      rw [hora j o ho hjj] at q1
      have hrun := RunOp.at (P := P) hT hora0 e1 q3 q1 q2
      refine hrun.2 r n G1 a w db _ Q hS fun e a' w' G' he hs' hl' => .inl ⟨he.normal', ?_⟩
      refine next G' a' w' ?_ (hl'.less hlen0)
      rw [happ]
      exact hs'
    | false =>
      rw [hw] at hwt
      rw [if_neg (by rw [hwt]; simp)]
      obtain ⟨q1, q2⟩ := e5 hw
      refine ⟨fun f _ => trivial, ?_⟩
      have := hS.put e1 (v := .tuple []) (u := Go.undef) (.tuple rfl fun j c u h => by simp at h)
      refine next G1 _ w ?_ (leM_refl _ _)
      rw [happ, q1, q2]
      exact this
/-- What a box is when nothing more is known of it than that it is one's own. -/
theorem boxOk_gone {G : Gh} {w : World} {s : Slot} {b : Box} (h : BoxOk G w s b) : BoxOk G w s .gone := fun g hg => h.blk hg
def goneAt : List Nat → List Box → List Box
  | [], sg => sg
  | id :: ids, sg => goneAt ids (sg.set id .gone)
theorem goneAt_len : ∀ (ids : List Nat) (sg : List Box), (goneAt ids sg).length = sg.length
  | [], _ => rfl
  | id :: ids, sg => by rw [goneAt, goneAt_len ids, List.length_set]
theorem goneAt_get : ∀ (ids : List Nat) (sg : List Box) (j : Nat) (b : Box), (goneAt ids sg)[j]? = some b → (b = .gone ∧ j < sg.length ∧ j ∈ ids) ∨ (j ∉ ids ∧ sg[j]? = some b)
  | [], sg, j, b, h => .inr ⟨by simp, h⟩
  | id :: ids, sg, j, b, h => by
    rcases goneAt_get ids (sg.set id .gone) j b h with ⟨h1, h2, h3⟩ | ⟨h1, h2⟩
    · exact .inl ⟨h1, by simpa using h2, List.mem_cons_of_mem _ h3⟩
    · by_cases hj : id = j
      · subst hj
        have hlt : id < sg.length := by have := (List.getElem?_eq_some_iff.1 h2).1; simpa using this
        rw [List.getElem?_set_self hlt] at h2
        cases h2
        exact .inl ⟨rfl, hlt, List.mem_cons_self ..⟩
      · rw [List.getElem?_set_ne hj] at h2
        refine .inr ⟨fun hm => ?_, h2⟩
        rcases List.mem_cons.1 hm with e | hm
        · exact hj e.symm
        · exact h1 hm
theorem goneAt_out : ∀ (ids : List Nat) (sg : List Box) (j : Nat), j ∉ ids → (goneAt ids sg)[j]? = sg[j]?
  | [], _, _, _ => rfl
  | id :: ids, sg, j, h => by
    rw [goneAt, goneAt_out ids _ j (fun hm => h (List.mem_cons_of_mem _ hm)), List.getElem?_set_ne (fun e => h (by rw [e]; exact List.mem_cons_self ..))]
theorem foldS_src {S : Nat → Bool} {id : Nat} {b : Box} : ∀ (ps : List (Oper × DRec)) (k : Nat) (st : St), (∀ p ∈ ps, p.2.full = none) → (foldS S k ps st).sg[id]? = some b → st.sg[id]? = some b ∨ ∃ p ∈ ps, p.2.ef = some (id, b)
  | [], _, _, _, h => .inl h
  | (o, r) :: ps, k, st, hf, h => by
    unfold foldS at h
    rcases foldS_src ps (k + 1) _ (fun p hp => hf p (List.mem_cons_of_mem _ hp)) h with h | ⟨p, hp, he⟩
    · split at h
      · have hr := hf (o, r) (List.mem_cons_self ..)
        unfold app at h
        rw [hr] at h
        have h : (setE st.sg r.ef)[id]? = some b := h
        cases he : r.ef with
        | none => rw [he] at h; exact .inl h
        | some q =>
          obtain ⟨id', b'⟩ := q
          rw [he] at h
          have h : (st.sg.set id' b')[id]? = some b := h
          by_cases hid : id' = id
          · subst hid
            have hlt : id' < st.sg.length := by have := (List.getElem?_eq_some_iff.1 h).1; simpa using this
            rw [List.getElem?_set_self hlt] at h
            cases h
            exact .inr ⟨(o, r), List.mem_cons_self .., he⟩
          · rw [List.getElem?_set_ne hid] at h
            exact .inl h
      · exact .inl h
    · exact .inr ⟨p, List.mem_cons_of_mem _ hp, he⟩
def notLoop : Option Box → Bool
  | some (.loop _) => false
  | _ => true
/-- The state in which a region that draws is left by a panic: what it may have written is not known. -/
theorem relS_gone {G : Gh} {st : St} {ps : List (Oper × DRec)} {S : Nat → Bool} {a : Act} {w : World} {r : Option Nat} {db : DB} (hf : ∀ p ∈ ps, p.2.full = none) (hn : (foldS S 0 ps st).n = st.n) {ids : List Nat} (hids : ∀ p ∈ ps, ∀ id b, p.2.ef = some (id, b) → id ∈ ids)
    (hl : ∀ id ∈ ids, notLoop st.sg[id]? = true) (hl2 : ∀ p ∈ ps, ∀ id b, p.2.ef = some (id, b) → notLoop (some b) = true) (h : RelS G (foldS S 0 ps st) a w r db) : RelS G ⟨[], st.n, goneAt ids st.sg⟩ a w r db := by
  have hlen : (foldS S 0 ps st).sg.length = st.sg.length := foldS_len ps 0 st fun i p hp hfl => by
    have := hf p (List.mem_of_getElem? hp)
    unfold isFull at hfl
    rw [this] at hfl
    cases hfl
  have hout : ∀ id, id ∉ ids → (foldS S 0 ps st).sg[id]? = st.sg[id]? := fun id hid => by
    have := foldS_sg (S := S) (S' := fun _ => false) (id := id) ps 0 st st (fun i p hp hc => by
      rcases hc with hc | hc
      · unfold wid at hc
        cases he : p.2.ef with
        | none => rw [he] at hc; cases hc
        | some q =>
          rw [he] at hc
          obtain ⟨id', b'⟩ := q
          cases hc
          exact absurd (hids p (List.mem_of_getElem? hp) _ _ he) hid
      · have := hf p (List.mem_of_getElem? hp)
        unfold isFull at hc
        rw [this] at hc
        cases hc) rfl rfl
    rw [this, foldS_none]
  refine ⟨⟨h.rel.below, ?_, fun id s b hs hb => ?_, h.rel.inj, h.rel.st, h.rel.stM, h.rel.dfr, h.rel.tab⟩, (fun t v e => by cases e), h.n.trans hn, h.dfr, fun l hl' => ?_⟩
  · rw [h.rel.len, hlen, goneAt_len]
  · rcases goneAt_get ids st.sg id b hb with ⟨rfl, hlt, _⟩ | ⟨hni, hb'⟩
    · have hlt' : id < (foldS S 0 ps st).sg.length := by omega
      exact boxOk_gone (h.rel.box id s _ hs (List.getElem?_eq_getElem hlt'))
    · exact h.rel.box id s b hs (by rw [hout id hni]; exact hb')
  · obtain ⟨id, d, lr, e1, e2⟩ := h.rd l hl'
    refine ⟨id, d, lr, e1, ?_⟩
    by_cases hm : id ∈ ids
    · exfalso
      rcases foldS_src ps 0 st hf e2 with h1 | ⟨p, hp, he⟩
      · have := hl id hm
        rw [h1] at this
        cases this
      · have := hl2 p hp _ _ he
        cases this
    · show (goneAt ids st.sg)[id]? = _
      rw [goneAt_out ids _ _ hm, ← hout id hm]
      exact e2
def txtD (cf : CallF) (T : TypeId → TyI) (ops : Array Oper) : List Oper → Nat → St → Option (List DRec × St)
  | [], _, st => some ([], st)
  | o :: os, fid, st => match stepD cf T ops fid st o with
    | some (r, fid', st1) => match txtD cf T ops os fid' st1 with
      | some (rs, st') => some (r :: rs, st')
      | none => none
    | none => none
theorem txtD_ok {cf : CallF} : ∀ (os : List Oper) (fid : Nat) (st : St) (rs : List DRec) (st' : St), txtD cf T ops os fid st = some (rs, st') → TxtOk P (oraOf cf) T ops (os.zip rs) st ∧ rs.length = os.length ∧ ∀ r ∈ rs, r.full = none
  | [], fid, st, rs, st', h => by
    cases h
    exact ⟨trivial, rfl, fun r hr => by cases hr⟩
  | o :: os, fid, st, rs, st', h => by
    unfold txtD at h
    split at h <;> try (cases h; done)
    rename_i r fid' st1 hst
    split at h <;> cases h
    rename_i rs1 h1
    obtain ⟨a, b, c⟩ := txtD_ok os fid' st1 rs1 _ h1
    have key : EvAt P (oraOf cf) T ops st o r ∧ app o r st = st1 ∧ r.full = none := by
      unfold stepD at hst
      simp only at hst
      split at hst <;> try (cases hst; done)
      rename_i hdo
      have hd := dOk_iff hdo
      split at hst
      · rename_i hw
        split at hst <;> try (cases hst; done)
        rename_i v ef hv
        split at hst <;> cases hst
        rename_i hc
        refine ⟨⟨fun s e => (by cases e), fun _ => ⟨hd, hw, rfl, fun _ => ⟨hv, hc.1, fun hn => ?_⟩, fun e => (by cases e)⟩⟩, rfl, rfl⟩
        have := hc.2
        rw [hn] at this
        exact freeB_iff (by simpa using this)
      · rename_i hw
        cases hst
        exact ⟨⟨fun s e => (by cases e), fun _ => ⟨hd, hw, rfl, fun e => (by cases e), fun _ => ⟨rfl, rfl⟩⟩⟩, rfl, rfl⟩
      · cases hst
    obtain ⟨k1, k2, k3⟩ := key
    refine ⟨⟨k1, by rw [k2]; exact a⟩, by simp [b], fun x hx => ?_⟩
    rcases List.mem_cons.1 hx with rfl | hx
    · exact k3
    · exact c x hx
def DrawP (cf : CallF) (T : TypeId → TyI) (ops : Array Oper) (os : List Oper) (fid : Nat) (st : St) (K : List DRec → Prop) : Prop := ∃ rs st', txtD cf T ops os fid st = some (rs, st') ∧ K rs
theorem DrawP.nil {cf : CallF} {fid : Nat} {st : St} {K : List DRec → Prop} (h : K []) : DrawP cf T ops [] fid st K := ⟨_, _, rfl, h⟩
theorem DrawP.step {cf : CallF} {o : Oper} {os : List Oper} {fid fid' : Nat} {r : DRec} {st st1 : St} {K : List DRec → Prop} (h : stepD cf T ops fid st o = some (r, fid', st1)) (hq : DrawP cf T ops os fid' st1 fun rs => K (r :: rs)) : DrawP cf T ops (o :: os) fid st K := by
  obtain ⟨rs, st', h1, h2⟩ := hq
  refine ⟨r :: rs, st', ?_, h2⟩
  unfold txtD
  rw [h]
  dsimp only
  rw [h1]
/-- What must hold of the records. -/
def PanK (P : Program) (T : TypeId → TyI) (os : List Oper) (jp : Nat) (op0 : Oper) (v : PV) (st0 : St) (ids : List Nat) (rs : List DRec) : Prop :=
  boxOk os.toArray rs = true ∧ (match rs[jp]? with | some r => r.want | none => false) = true ∧ rs.all (fun r => match r.ef with | some (id, b) => ids.contains id && notLoop (some b) | none => true) = true ∧
  ∀ st' : St, st'.n = st0.n → (∀ t ∈ lookT os.toArray op0, getT st'.tm t = getT (foldS (fun i => decide (i < jp)) 0 (os.zip rs) st0).tm t) → RunOp P op0 st' (.panic v) st'
theorem repl_false (n j : Nat) : (Array.replicate n false).getD j false = false := by
  by_cases hj : j < n <;> simp [Array.getD_eq_getD_getElem?, hj]
theorem RunQ.drawP {id : Nat} {os : List Oper} {st : St} {Q : Out → St → Prop} (ids : List Nat) {sg0 : List Box} {cf cf' : CallF} (jp : Nat) {op0 : Oper} (v : PV) (wids : List Nat) (hT : TyT P T) (hcf : CallFOk P cf) (hm : P.follows .mixedOrders = true) (hst : statOk os.toArray = true) (hsg : rowsOf st.sg ids ++ List.replicate (newCount os) .dead = sg0)
    (hj0 : os[jp]? = some op0) (hora : ∀ (j : Nat) (o : Oper), os[j]? = some o → j ≠ jp → ∀ (tm : List (Nat × PV)) (sg : List Box) (fid : Nat), opD (oraOf cf') T tm sg fid o.op = opD (oraOf cf) T tm sg fid o.op)
    (hl : (wids.all fun id => notLoop sg0[id]?) = true) (h : DrawP cf' T os.toArray os st.sg.length { tm := st.tm, n := st.n, sg := sg0 } (PanK P T os jp op0 v { tm := st.tm, n := st.n, sg := sg0 } wids))
    (hq : Q (.panic v) ⟨[], st.n, goneAt wids sg0⟩) : RunQ P (.region id os.toArray true) st Q := by
  obtain ⟨rs, st1, h1, hbx, hw, hwid, hpan⟩ := h
  obtain ⟨htxt, hlen, hfull⟩ := txtD_ok (P := P) os _ _ rs st1 h1
  have hlp : ∀ p ∈ os.toArray.toList.zip rs, p.2.full = none := fun p hp => hfull p.2 (List.of_mem_zip hp).2
  have hids : ∀ p ∈ os.toArray.toList.zip rs, ∀ id b, p.2.ef = some (id, b) → id ∈ wids ∧ notLoop (some b) = true := fun p hp id b he => by
    have := List.all_eq_true.1 hwid p.2 (List.of_mem_zip hp).2
    rw [he] at this
    simpa using this
  refine ⟨_, _, Run.pre (st1 := { tm := st.tm, n := st.n, sg := sg0 }) (by rw [← hsg]; exact (Ghost.rows ids st.sg st rfl).trans (Ghost.deads (newCount os) _)) ⟨by rw [goneAt_len]; exact Nat.le_refl _, fun r n G a w db Q hs k => wpIn_region_any hm ?_⟩, hq⟩
  have hR' := hs.rel.keep (below_drew w)
  have hn : ∀ S, (foldS S 0 (os.toArray.toList.zip rs) { tm := st.tm, n := st.n, sg := sg0 }).n = st.n := fun S => foldS_n S _ 0 _ (fun p hp s hs => by rw [hlp p hp] at hs; cases hs) rfl
  refine draw_invP hT (oraOf_ok hcf) (ora := oraOf cf') (rs := rs) (jp := jp) (op0 := op0) (v := v) (by simp [hlen]) hst (by simpa using htxt) hbx (by simpa using hj0) (fun j o hj hne => hora j o (by simpa using hj) hne) (fun st' h1 h2 => hpan st' h1 fun t ht => by simpa using h2 t ht) (fun rc hrc => ⟨hfull rc (List.mem_of_getElem? hrc), by rw [hrc] at hw; exact hw⟩)
    (G := G) (fun e a' w' G' S he hs' hle => k e a' w' G' he (relS_gone hlp (hn S) (fun p hp id b he => (hids p hp id b he).1) (fun id hid => List.all_eq_true.1 hl id hid) (fun p hp id b he => (hids p hp id b he).2) hs') hle) os.toArray.size _ G a _ (by simp) (fun j h => ?_) ?_ ?_ ?_ (leM_refl _ _)
  · rw [repl_false] at h
    cases h
  · exact repl_false _ _
  · have : ∀ (f : Nat → Bool) (n : Nat), cnt f n ≤ n := by
      intro f n
      induction n with
      | zero => exact Nat.le_refl _
      | succ n ih => unfold cnt; split <;> omega
    exact this _ _
  · have hz : (fun i => (Array.replicate os.toArray.size false).getD i false) = fun _ => false := funext fun j => repl_false _ j
    rw [hz, foldS_none]
    exact ⟨hR', hs.tm, hs.n, hs.dfr, hs.rd⟩
end
end Go.Pv
