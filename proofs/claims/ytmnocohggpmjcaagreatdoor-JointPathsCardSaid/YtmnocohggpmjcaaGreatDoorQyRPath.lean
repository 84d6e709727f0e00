/- Ways, in plain terms: turns go both ways; the search is complete; from what was met a turn leads nearer. -/
import Derived.Test.YtmnocohggpmjcaaGreatDoorQyFar
import Derived.Test.YtmnocohggpmjcaaGreatDoorQyPath
import Derived.Test.YtmnocohggpmjcaaGreatDoorQvKnown
set_option linter.all false
namespace Go.Pv
open Go Go.RowKit Go.Proofs
theorem trn_getD {l : List Int} {t : Int × Int} (h : t.1.toNat < l.length) : (trnG l t).getD t.1.toNat 0 = l.getD t.1.toNat 0 + t.2 := by
  unfold trnG
  rw [List.getD_eq_getElem?_getD, List.getElem?_set_self h]
  rfl
/-- A turn back. -/
theorem trn_back {l : List Int} {t : Int × Int} (h : t.1.toNat < l.length) : trnG (trnG l t) (t.1, -t.2) = l := by
  have e := trn_getD h
  show (trnG l t).set t.1.toNat ((trnG l t).getD t.1.toNat 0 + -t.2) = l
  rw [e]
  unfold trnG
  rw [List.set_set, show l.getD t.1.toNat 0 + t.2 + -t.2 = l.getD t.1.toNat 0 by omega]
  refine List.ext_getElem? fun i => ?_
  rw [List.getElem?_set]
  split
  · rename_i hi
    subst hi
    rw [List.getD_eq_getElem?_getD, List.getElem?_eq_getElem h]
    simp [h]
  · rfl
theorem nb_sym {s : Int} {ls : List Lb} {g : Stg} {p q : List Int} (hp : poseG ls p = true) (hf : finG s ls g p = true) (h : q ∈ nbG s ls g p) : p ∈ nbG s ls g q := by
  obtain ⟨t, ht, rfl, _, _⟩ := nb_mem.1 h
  obtain ⟨h1, h2, h3⟩ := mem_cand.1 ht
  have hl := (pose_at hp).1
  refine nb_mem.2 ⟨(t.1, -t.2), mem_cand.2 ⟨h1, h2, by simp only; omega⟩, (trn_back (by omega)).symm, hp, hf⟩
section
variable {s : Int} {ls : List Lb} {g : Stg} {b : List Int}
theorem away_fine (hb : finG s ls g b = true) (i : Nat) : ∀ x ∈ awayQ s ls g b i, finG s ls g x.1 = true :=
  bfs_all (p := fun l => finG s ls g l = true) (fun x hx => by simp at hx; subst hx; exact hb) (fun x hx y hy => by obtain ⟨t, _, _, _, h⟩ := nb_mem.1 hy; exact h) i
theorem away_closedQ {i k : Nat} (hk : k < i) {x : List Int × Nat} (hx : (awayQ s ls g b i)[k]? = some x) {y : List Int} (hy : y ∈ nbG s ls g x.1) : ∃ e, (y, e) ∈ awayQ s ls g b i ∧ e ≤ x.2 + 1 := bfs_closed (nb := nbG s ls g) (f := b) hk hx hy
theorem away_predQ (i : Nat) {x : List Int × Nat} (hx : x ∈ awayQ s ls g b i) (h0 : 0 < x.2) : ∃ y, (y, x.2 - 1) ∈ awayQ s ls g b i ∧ x.1 ∈ nbG s ls g y := by
  rcases bfs_pred (nb := nbG s ls g) (f := b) i hx with h | ⟨y, h1, h2, _⟩
  · rw [h] at h0; exact absurd h0 (by simp)
  · exact ⟨y, h1, h2⟩
theorem away_closed (hf : figB s ls = true) (hp : poseG ls b = true) {x : List Int × Nat} (hx : x ∈ awayG s ls g b) {y : List Int} (hy : y ∈ nbG s ls g x.1) : ∃ e, (y, e) ∈ awayG s ls g b ∧ e ≤ x.2 + 1 := by
  obtain ⟨k, hk⟩ := List.getElem?_of_mem hx
  have hl := away_len (s := s) (ls := ls) (g := g) (f := b) hf hp 60000
  have hlt := (List.getElem?_eq_some_iff.1 hk).1
  unfold awayG at hk hlt ⊢
  generalize hn : (60000 : Nat) = n at hk hlt hl ⊢
  exact away_closedQ (by omega) hk hy
theorem away_pred {x : List Int × Nat} (hx : x ∈ awayG s ls g b) (h0 : 0 < x.2) : ∃ y, (y, x.2 - 1) ∈ awayG s ls g b ∧ x.1 ∈ nbG s ls g y := by
  unfold awayG at hx ⊢
  exact away_predQ _ hx h0
theorem awayG_nodup : ((awayG s ls g b).map Prod.fst).Nodup := by unfold awayG; exact away_nodup _
theorem awayG_pose (hp : poseG ls b = true) : ∀ x ∈ awayG s ls g b, poseG ls x.1 = true := by unfold awayG; exact away_pose hp _
theorem awayG_fine (hb : finG s ls g b = true) : ∀ x ∈ awayG s ls g b, finG s ls g x.1 = true := by unfold awayG; exact away_fine hb _
/-- A search that is complete. -/
structure Srch (s : Int) (ls : List Lb) (g : Stg) (Q : Dst) : Prop where
  nd : (Q.map Prod.fst).Nodup
  pose : ∀ x ∈ Q, poseG ls x.1 = true
  fine : ∀ x ∈ Q, finG s ls g x.1 = true
  pred : ∀ x ∈ Q, 0 < x.2 → ∃ y, (y, x.2 - 1) ∈ Q ∧ x.1 ∈ nbG s ls g y
  next : ∀ x ∈ Q, ∀ y ∈ nbG s ls g x.1, ∃ e, (y, e) ∈ Q ∧ e ≤ x.2 + 1
theorem away_srch (hf : figB s ls = true) (hp : poseG ls b = true) (hb : finG s ls g b = true) : Srch s ls g (awayG s ls g b) :=
  ⟨awayG_nodup, awayG_pose hp, awayG_fine hb, fun _ hx h => away_pred hx h, fun _ hx _ hy => away_closed hf hp hx hy⟩
end
section
variable {s : Int} {ls : List Lb} {g : Stg} {Q : Dst}
theorem dG_mem (H : Srch s ls g Q) {l : List Int} {d : Nat} (h : (l, d) ∈ Q) : dG Q l = (d : Int) ∧ dI Q l = (d : Int) := by
  have := (dO_some H.nd).2 h
  unfold dG dI
  rw [this]
  exact ⟨rfl, rfl⟩
/-- From what was met a turn leads nearer. -/
theorem near_of (H : Srch s ls g Q) {now : List Int} (hn : hasK Q now = true) (h0 : 0 < dG Q now) :
    ∃ t ∈ candG ls.length, poseG ls (trnG now t) = true ∧ dI Q (trnG now t) = dI Q now - 1 := by
  obtain ⟨d, hd⟩ := hasK_iff.1 hn
  obtain ⟨e1, e2⟩ := dG_mem H hd
  rw [e1] at h0
  obtain ⟨y, hy, hyn⟩ := H.pred _ hd (show 0 < d by omega)
  obtain ⟨_, e4⟩ := dG_mem H hy
  have hsym := nb_sym (H.pose _ hy) (H.fine _ hy) hyn
  obtain ⟨t, ht, e, h1, h2⟩ := nb_mem.1 hsym
  refine ⟨t, ht, by rw [← e]; exact h1, ?_⟩
  rw [← e, e2, e4]
  show ((d - 1 : Nat) : Int) = (d : Int) - 1
  omega
/-- The turn that is taken is told in either way. -/
theorem okT_dI (H : Srch s ls g Q) {now : List Int} (hn : hasK Q now = true) (h0 : 0 < dG Q now) {t : Int × Int} (ht : t ∈ candG ls.length) :
    (okT s ls g now t && decide (dG Q (trnG now t) = dG Q now - 1)) = (poseG ls (trnG now t) && decide (dI Q (trnG now t) = dI Q now - 1)) := by
  have hdi := dI_dG hn
  obtain ⟨d, hd⟩ := hasK_iff.1 hn
  rw [Bool.eq_iff_iff]
  unfold okT
  simp only [Bool.and_eq_true, decide_eq_true_eq]
  constructor
  · rintro ⟨⟨h1, h2⟩, h3⟩
    have hnb : trnG now t ∈ nbG s ls g now := nb_mem.2 ⟨t, ht, rfl, h1, h2⟩
    obtain ⟨e, he, _⟩ := H.next _ hd _ hnb
    have hk : hasK Q (trnG now t) = true := hasK_iff.2 ⟨e, he⟩
    exact ⟨h1, by rw [dI_dG hk, hdi]; exact h3⟩
  · rintro ⟨h1, h3⟩
    have hk : hasK Q (trnG now t) = true := by
      have := dI_neg (Q := Q) (q := trnG now t)
      rw [h3, hdi, decide_eq_false (by omega)] at this
      cases hh : hasK Q (trnG now t) with
      | true => rfl
      | false => rw [hh] at this; cases this
    obtain ⟨e, he⟩ := hasK_iff.1 hk
    have h2 := H.fine _ he
    exact ⟨⟨h1, h2⟩, by rw [← dI_dG hk, ← hdi]; exact h3⟩
end
theorem find_congr {α : Type} {p q : α → Bool} : ∀ {l : List α}, (∀ a ∈ l, p a = q a) → l.find? p = l.find? q
  | [], _ => rfl
  | a :: l, h => by
    rw [List.find?_cons, List.find?_cons, h a (List.mem_cons_self ..), find_congr fun x hx => h x (List.mem_cons_of_mem _ hx)]
theorem find_filter_map {α β : Type} (r : α → Bool) (f : α → β) (p : β → Bool) : ∀ (l : List α), ((l.filter r).map f).find? p = (l.find? fun a => r a && p (f a)).map f
  | [] => rfl
  | a :: l => by
    rw [List.filter_cons, List.find?_cons]
    have ih := find_filter_map r f p l
    cases hr : r a with
    | true =>
      rw [if_pos rfl, List.map_cons, List.find?_cons, Bool.true_and]
      cases hp : p (f a) with
      | true => rfl
      | false => exact ih
    | false =>
      rw [if_neg (by simp), Bool.false_and]
      exact ih
/-- The first turn that leads nearer, as the reference looks for it. -/
def firT (ls : List Lb) (Q : Dst) (now : List Int) (t : Int × Int) : Bool := poseG ls (trnG now t) && decide (dI Q (trnG now t) = dI Q now - 1)
theorem path_succ {s : Int} {ls : List Lb} {g : Stg} {Q : Dst} (H : Srch s ls g Q) {now : List Int} (hn : hasK Q now = true) (h0 : 0 < dG Q now) {j : Nat} {t : Int × Int} (hj : (candG ls.length)[j]? = some t) (ht : firT ls Q now t = true)
    (hb4 : ∀ (k : Nat) (u : Int × Int), k < j → (candG ls.length)[k]? = some u → firT ls Q now u = false) (n : Nat) :
    pathL s ls g Q (n + 1) now = t :: pathL s ls g Q n (trnG now t) := by
  have h1 : (nextG s ls g now).find? (fun x => decide (dG Q x.2 = dG Q now - 1)) = some (t, trnG now t) := by
    unfold nextG
    rw [find_filter_map, find_congr (q := firT ls Q now) fun u hu => okT_dI H hn h0 hu]
    have : (candG ls.length).find? (firT ls Q now) = some t := by
      rw [List.find?_eq_some_iff_getElem]
      obtain ⟨l1, e1⟩ := List.getElem?_eq_some_iff.1 hj
      refine ⟨ht, j, l1, e1, fun k hk => ?_⟩
      rw [hb4 k _ hk (List.getElem?_eq_getElem (by omega))]; rfl
    rw [this]; rfl
  show (match (nextG s ls g now).find? _ with | some x => _ | none => _) = _
  rw [h1]
end Go.Pv
namespace Go.Pv
open Go Go.RowKit Go.Proofs
set_option maxRecDepth 200000
set_option maxHeartbeats 8000000
/-- What the reference's Path returns. -/
def rpathR (s : Int) (ls : List Lb) (g : Stg) (a b : List Int) : PV :=
  if hasK (awayG s ls g b) a = true then .tuple [trsP (pathL s ls g (awayG s ls g b) (dG (awayG s ls g b) a).toNat a), .bool true] else .tuple [.sl .n [], .bool false]
def cfYe : CallF := cfAdd (cfAdd (cfAdd (cfAdd (cfAdd cf0 102 c102) 104 c104) 103 c103) 105 (conRow c145)) 27 c86
theorem cfYe_ok : CallFOk Tryz.prog cfYe := cfAdd_ok (cfAdd_ok (cfAdd_ok (cfAdd_ok (cfAdd_ok cf0_ok c102_ok) c104_ok) c103_ok) c105_ok.row) c27_ok
theorem RPath_45 (s : Int) (z zh zr za zb : Z) (ls : List Lb) (g : Stg) (a b : List Int) (hzo : zOk z (ls.map encLb) = true) (hh : zOk zh (g.hs.map encFld) = true) (hr : zOk zr (g.rs.map ii) = true) (ha : zOk za (a.map ii) = true) (hb : zOk zb (b.map ii) = true)
    (hf : figB s ls = true) (hg : stgG ls g = true) (hpa : poseG ls a = true) (hpb : poseG ls b = true) (hfb : finG s ls g b = true) :
    CallOk Tryz.prog 45 [.agg [ii s, .sl z (ls.map encLb)], encStg zh zr g, .sl za (a.map ii), .sl zb (b.map ii)] [] (.ret (rpathR s ls g a b)) [] := by
  refine CallOk.ofF hTT Tryz.func45 rfl rfl ?_
  have hd := decFig_enc s z ls hzo
  have hd2 := decStg_enc hh hr
  have hdb := decIs1_enc hb
  have hl := fig_len hf
  have hs2 : ls.length ≤ 1000 := by omega
  have hne : ls ≠ [] := fun e => by rw [e] at hl; simp at hl
  have hal := (pose_at hpa).1
  have hza : za ≠ .n := fun e => by
    have := zOk_map ha e
    rw [this] at hal; simp at hal; omega
  have H := away_srch (g := g) hf hpb hfb
  have hbd := fun l => dG_bd (s := s) (ls := ls) (g := g) (f := b) l
  unfold encStg at hd2 ⊢
  unfold rpathR
  refine RunQ.slA 2 rfl hza rfl ?_
  repeat (first | (with_reducible (first | apply wA | ((fail_if_success (refine RunQ.seq (x := .region 2 _ _) ?_)); (apply wB)) | apply wC | apply wD | apply wE | apply wF | apply wG | apply wH | apply wI | apply wJ | apply wK | apply wL | apply wM | apply wN | apply wO | apply wP | apply wQ rfl | apply wR | apply wS | apply wT | apply wU)) | ((with_reducible (first | apply wV | apply wW | apply wX | (apply wY [] hTT cfYe_ok noM_ok mixed; (focus kernel_rfl)))); (focus (simp only [Tryz.f45, cfYe, c102, hd, hd2, hdb, hf, hg, hpb, and_self, if_true, go_sem]; with_reducible rfl))) | ((fail_if_success (with_reducible show RunQ _ (.region 2 _ _) _ _)); (with_reducible refine wZ hTT cfYe_ok noM_ok ?_)) | (with_reducible refine wa ?_; refine And.intro ?_ ?_; (focus kernel_rfl)))
  refine RunQ.keep [10, 4, 2] (by simp only [go_sem]; rfl) ?_
  generalize awayG s ls g b = Q at *
  have hfl : (farL ls Q).length = (posesG ls).length := by unfold farL; rw [List.length_map]
  have hdec : ∀ l : List Int, decIs1 (.sl .a (l.map ii)) = some l := fun l => decIs1_enc (by cases l <;> rfl)
  have hix : ∀ {l}, poseG ls l = true → (idxG ls l : Int) < (posesG ls).length := fun {l} h => by
    have := (List.getElem?_eq_some_iff.1 (poses_idx h)).1
    omega
  have hfg : ∀ {l}, poseG ls l = true → ((farL ls Q).map ii)[idxG ls l]? = some (ii (dI Q l)) := fun {l} h => by rw [List.getElem?_map, far_get h]; rfl
  have hda := hdec a
  have hixa := hix hpa
  have hfga := hfg hpa
  have hng := dI_neg (Q := Q) (q := a)
  cases hk : hasK Q a
  · rw [hk] at hng
    have hneg : dI Q a < 0 := of_decide_eq_true hng
    repeat (first | (with_reducible (first | apply wA | apply wB | apply wC | apply wD | apply wE | apply wF | apply wG | apply wH | apply wI | apply wJ | apply wK | apply wL | apply wM | apply wN | apply wO | apply wP | apply wQ rfl | apply wR | apply wS | apply wT | apply wU)) | ((with_reducible (first | apply wV | apply wW | apply wX | (apply wY [] hTT cfYe_ok noM_ok mixed; (focus kernel_rfl)))); (focus (simp only [Tryz.f45, cfYe, c103, hd, hda, hf, hpa, hfl, hixa, hfga, hneg, Int.toNat_natCast, Int.natCast_nonneg, List.length_map, go_sem]; with_reducible rfl))) | (with_reducible refine wZ hTT cfYe_ok noM_ok ?_) | (with_reducible refine wa ?_; refine And.intro ?_ ?_; (focus kernel_rfl)))
    exact ⟨rfl, rfl, _, rfl, leave_closed rfl⟩
  rw [hk] at hng
  have hneg : ¬ dI Q a < 0 := of_decide_eq_false hng
  rw [if_pos rfl]
  repeat (first | (with_reducible (first | apply wA | ((fail_if_success (refine RunQ.seq (x := .region 6 _ _) ?_)); (apply wB)) | apply wC | apply wD | apply wE | apply wF | apply wG | apply wH | apply wI | apply wJ | apply wK | apply wL | apply wM | apply wN | apply wO | apply wP | apply wQ rfl | apply wR | apply wS | apply wT | apply wU)) | ((with_reducible (first | apply wV | apply wW | apply wX | (apply wY [] hTT cfYe_ok noM_ok mixed; (focus kernel_rfl)))); (focus (simp only [Tryz.f45, cfYe, c103, hd, hda, hf, hpa, hfl, hixa, hfga, hneg, Int.toNat_natCast, Int.natCast_nonneg, List.length_map, go_sem]; with_reducible rfl))) | ((fail_if_success (with_reducible show RunQ _ (.region 6 _ _) _ _)); (with_reducible refine wZ hTT cfYe_ok noM_ok ?_)) | (with_reducible refine wa ?_; refine And.intro ?_ ?_; (focus kernel_rfl)))
  refine RunQ.keep [12, 11, 10, 4] (by simp only [go_sem]; rfl) ?_
  repeat (first | (with_reducible (first | apply wA | apply wB | apply wC | apply wD | apply wE | apply wF | apply wG | apply wH | apply wI | apply wJ | apply wK | apply wL | apply wM | apply wN | apply wO | apply wP | apply wQ rfl | apply wR | apply wS | apply wT | apply wU)) | ((with_reducible (first | apply wV | apply wW | apply wX | (apply wY [] hTT cfYe_ok noM_ok mixed; (focus kernel_rfl)))); (focus (simp only [Tryz.f45, cfYe, c104, hd, hne, hs2, go_sem]; with_reducible rfl))) | (with_reducible refine wZ hTT cfYe_ok noM_ok ?_) | (with_reducible refine wa ?_; refine And.intro ?_ ?_; (focus kernel_rfl)))
  refine RunQ.keep [13, 12, 11, 10, 4] (by simp only [go_sem]; rfl) ?_
  refine RunQ.nilRow 12 130 2 (by simp only [go_sem]) (by simp only [go_sem]; rfl) (by simp only [go_sem]; rfl) ?_
  generalize hdd : dG Q a = D at *
  have hbda := hbd a
  rw [hdd] at hbda
  have lI : ∀ m (l : List Int), ltBL m (l.map ii) = true := fun m l => ltBL_of_closed m _ (closedL_is l)
  refine RunQ.loop (fun i s' => ∃ (now : List Int) (out : List (Int × Int)), poseG ls now = true ∧ hasK Q now = true ∧ dG Q now = D - i ∧ i ≤ D.toNat ∧ pathL s ls g Q D.toNat a = out ++ pathL s ls g Q (D.toNat - i) now ∧ out.length = i ∧
      s' = ⟨[(13, .sl .a ((candG ls.length).map encT)), (12, .ms 2 out.length), (11, pvA now), (10, .sl .a ((farL ls Q).map ii)), (4, .bp 0 0)], 88, [.var [ii s, .sl z (ls.map encLb)] false, .var [ii g.e.a, ii g.e.b, ii g.e.c, ii g.e.d, .sl zh (g.hs.map encFld), .sl zr (g.rs.map ii)] false, .row (decide (out.length = 0)) 130 2 (out.map encT) false]⟩)
    D.toNat ⟨a, [], hpa, hk, by rw [hdd]; simp, Nat.zero_le _, rfl, rfl, rfl⟩ ?_
  rintro i _ hi ⟨now, out, hnp, hnk, hnd, hiD, hpath, hol, rfl⟩
  have hdI := dI_dG hnk
  have hdn := hdec now
  have hixn := hix hnp
  have hfgn := hfg hnp
  by_cases hlt : i < D.toNat
  · have hgt : (0 : Int) < dI Q now := by omega
    have hgtG : (0 : Int) < dG Q now := by omega
    obtain ⟨j, t, hj, ht, hb4⟩ : ∃ (j : Nat) (t : Int × Int), (candG ls.length)[j]? = some t ∧ firT ls Q now t = true ∧ ∀ (k : Nat) (u : Int × Int), k < j → (candG ls.length)[k]? = some u → firT ls Q now u = false := by
      obtain ⟨t0, h1, h2, h3⟩ := near_of H hnk hgtG
      cases hfd : (candG ls.length).find? (firT ls Q now) with
      | none =>
        rw [List.find?_eq_none] at hfd
        exact absurd (show firT ls Q now t0 = true from by unfold firT; rw [h2, h3]; simp) (hfd t0 h1)
      | some t =>
        obtain ⟨e1, j, l1, e2, e3⟩ := List.find?_eq_some_iff_getElem.1 hfd
        refine ⟨j, t, by rw [List.getElem?_eq_getElem l1, e2], e1, fun k u hku hu => ?_⟩
        obtain ⟨l2, e4⟩ := List.getElem?_eq_some_iff.1 hu
        have := e3 k hku
        rw [e4] at this
        simpa using this
    have hjl := (List.getElem?_eq_some_iff.1 hj).1
    have hcl := cand_len ls.length
    have hpl := path_succ H hnk hgtG hj ht hb4
    have ew : IntKind.i64.wrap (dI Q now - 1) = dI Q now - 1 := by
      have := hbd now
      exact wrap_id (by omega) (by omega)
    have hdx2 : decL decI (now.map ii) = some now := decIs now
    repeat (first | (with_reducible (first | apply wA | ((fail_if_success (refine RunQ.seq (x := .region 10 _ _) ?_)); (apply wB)) | apply wC | apply wD | apply wE | apply wF | apply wG | apply wH | apply wI | apply wJ | apply wK | apply wL | apply wM | apply wN | apply wO | apply wP | apply wQ rfl | apply wR | apply wS | apply wT | apply wU)) | ((with_reducible (first | apply wV | apply wW | apply wX | (apply wY [] hTT cfYe_ok noM_ok mixed; (focus kernel_rfl)))); (focus (simp only [Tryz.f45, cfYe, c103, hd, hdn, hf, hnp, hfl, hixn, hfgn, hgt, gt_iff_lt, Int.toNat_natCast, Int.natCast_nonneg, List.length_map, go_sem]; with_reducible rfl))) | ((fail_if_success (with_reducible show RunQ _ (.region 10 _ _) _ _)); (with_reducible refine wZ hTT cfYe_ok noM_ok ?_)) | (with_reducible refine wa ?_; refine And.intro ?_ ?_; (focus kernel_rfl)))
    refine RunQ.keep [15, 14, 13, 12, 11, 10, 4] (by simp only [go_sem]; rfl) ?_
    refine RunQ.loop (fun k s' => k ≤ j + 1 ∧ s' = ⟨[(15, ii k), (14, ii (if k ≤ j then -1 else (j : Int))), (13, .sl .a ((candG ls.length).map encT)), (12, .ms 2 out.length), (11, pvA now), (10, .sl .a ((farL ls Q).map ii)), (4, .bp 0 0)], 88, [.var [ii s, .sl z (ls.map encLb)] false, .var [ii g.e.a, ii g.e.b, ii g.e.c, ii g.e.d, .sl zh (g.hs.map encFld), .sl zr (g.rs.map ii)] false, .row (decide (out.length = 0)) 130 2 (out.map encT) false]⟩)
      (j + 1) ⟨Nat.zero_le _, by rw [if_pos (Nat.zero_le j)]; rfl⟩ ?_
    rintro k _ hkm ⟨_, rfl⟩
    by_cases hkj : k ≤ j
    · obtain ⟨u, hu⟩ : ∃ u, (candG ls.length)[k]? = some u := ⟨_, List.getElem?_eq_getElem (by omega)⟩
      have hu' : ((candG ls.length).map encT)[k]? = some (.agg [ii u.1, ii u.2]) := by rw [List.getElem?_map, hu]; rfl
      have htb := trnB_pose hf hnp (List.mem_of_getElem? hu)
      have hlk' : (k : Int) < (candG ls.length).length := by omega
      have e4 : IntKind.i64.wrap ((k : Int) + 1) = ((k + 1 : Nat) : Int) := wrap_id (by omega) (by omega)
      have hqz : closedL ((trnG now u).map ii) = true := closedL_is _
      have hql : ((trnG now u).map ii).length = now.length := by rw [List.length_map, trn_len]
      have hcond : firT ls Q now u = decide (k = j) := by
        by_cases hkj2 : k = j
        · subst hkj2
          rw [hj] at hu
          cases hu
          rw [ht]; simp
        · rw [hb4 k u (by omega) hu]; simp [hkj2]
      have hnat : (if k + 1 ≤ j then (-1 : Int) else (j : Int)) = if k = j then (k : Int) else -1 := by
        by_cases h : k = j
        · rw [if_neg (by omega), if_pos h, h]
        · rw [if_pos (by omega), if_neg h]
      have hk1 : k < j + 1 := by omega
      have hkj1 : k + 1 ≤ j + 1 := by omega
      rw [if_pos hkj]
      have hm1 : (-1 : Int) < 0 := by omega
      repeat (first | (with_reducible (first | apply wA | ((fail_if_success (refine RunQ.seq (x := .region 13 _ _) ?_)); (apply wB)) | apply wC | apply wD | apply wE | apply wF | apply wG | apply wH | apply wI | apply wJ | apply wK | apply wL | apply wM | apply wN | apply wO | apply wP | apply wQ rfl | apply wR | apply wS | apply wT | apply wU)) | ((with_reducible (first | apply wV | apply wW | apply wX | (apply wY [] hTT cfYe_ok noM_ok mixed; (focus kernel_rfl)))); (focus (simp only [Tryz.f45, cfYe, conRow, c145, hlk', hm1, hu', hdx2, htb, trn_len, closedL_is, and_self, if_true, ltBL_cons, ltB_isl, Int.toNat_natCast, Int.natCast_nonneg, List.length_map, go_sem]; with_reducible rfl))) | ((fail_if_success (with_reducible show RunQ _ (.region 13 _ _) _ _)); (with_reducible refine wZ hTT cfYe_ok noM_ok ?_)) | (with_reducible refine wa ?_; refine And.intro ?_ ?_; (focus kernel_rfl)))
      refine RunQ.freeze 16 3 rfl rfl hql hqz rfl rfl ?_
      refine RunQ.keep [16, 15, 14, 13, 12, 11, 10, 4] (by simp only [go_sem]; rfl) ?_
      unfold firT at hcond
      have hdq := hdec (trnG now u)
      generalize trnG now u = q at hcond hdq hqz ⊢
      cases hq1 : poseG ls q
      · rw [hq1, Bool.false_and] at hcond
        have hkj2 : k ≠ j := fun e => by rw [e] at hcond; simp at hcond
        rw [if_neg hkj2] at hnat
        repeat (first | (with_reducible (first | apply wA | apply wB | apply wC | apply wD | apply wE | apply wF | apply wG | apply wH | apply wI | apply wJ | apply wK | apply wL | apply wM | apply wN | apply wO | apply wP | apply wQ rfl | apply wR | apply wS | apply wT | apply wU)) | ((with_reducible (first | apply wV | apply wW | apply wX | (apply wY [] hTT cfYe_ok noM_ok mixed; (focus kernel_rfl)))); (focus (simp only [Tryz.f45, cfYe, c86, hd, hdq, hs2, hq1, e4, closedL_is, closedL_lbs, go_sem]; with_reducible rfl))) | (with_reducible refine wZ hTT cfYe_ok noM_ok ?_) | (with_reducible refine wa ?_; refine And.intro ?_ ?_; (focus kernel_rfl)))
        refine roundQ.t 3 [15, 14, 13, 12, 11, 10, 4] hk1 (by simp only [ltB_lbs, ltB_flds, ltB_is, ltB_isl, lI, lT, go_sem]) ⟨hkj1, by rw [hnat]; simp only [go_sem]⟩
      have hixq := hix hq1
      have hfgq := hfg hq1
      cases hq2 : decide (dI Q q = dI Q now - 1)
      · rw [hq2, Bool.and_false] at hcond
        have hkj2 : k ≠ j := fun e => by rw [e] at hcond; simp at hcond
        rw [if_neg hkj2] at hnat
        have hqb : (dI Q q == dI Q now - 1) = false := by simpa using hq2
        repeat (first | (with_reducible (first | apply wA | apply wB | apply wC | apply wD | apply wE | apply wF | apply wG | apply wH | apply wI | apply wJ | apply wK | apply wL | apply wM | apply wN | apply wO | apply wP | apply wQ rfl | apply wR | apply wS | apply wT | apply wU)) | ((with_reducible (first | apply wV | apply wW | apply wX | (apply wY [] hTT cfYe_ok noM_ok mixed; (focus kernel_rfl)))); (focus (simp only [Tryz.f45, cfYe, c86, c103, hd, hdq, hdn, hs2, hf, hq1, hnp, hfl, hixq, hfgq, hixn, hfgn, ew, hqb, e4, closedL_is, closedL_lbs, Int.toNat_natCast, Int.natCast_nonneg, List.length_map, go_sem]; with_reducible rfl))) | (with_reducible refine wZ hTT cfYe_ok noM_ok ?_) | (with_reducible refine wa ?_; refine And.intro ?_ ?_; (focus kernel_rfl)))
        refine roundQ.t 3 [15, 14, 13, 12, 11, 10, 4] hk1 (by simp only [ltB_lbs, ltB_flds, ltB_is, ltB_isl, lI, lT, go_sem]) ⟨hkj1, by rw [hnat]; simp only [go_sem]⟩
      · rw [hq1, hq2, Bool.true_and] at hcond
        have hkj2 : k = j := of_decide_eq_true hcond.symm
        rw [if_pos hkj2] at hnat
        have hqb : (dI Q q == dI Q now - 1) = true := by simpa using hq2
        repeat (first | (with_reducible (first | apply wA | apply wB | apply wC | apply wD | apply wE | apply wF | apply wG | apply wH | apply wI | apply wJ | apply wK | apply wL | apply wM | apply wN | apply wO | apply wP | apply wQ rfl | apply wR | apply wS | apply wT | apply wU)) | ((with_reducible (first | apply wV | apply wW | apply wX | (apply wY [] hTT cfYe_ok noM_ok mixed; (focus kernel_rfl)))); (focus (simp only [Tryz.f45, cfYe, c86, c103, hd, hdq, hdn, hs2, hf, hq1, hnp, hfl, hixq, hfgq, hixn, hfgn, ew, hqb, e4, closedL_is, closedL_lbs, Int.toNat_natCast, Int.natCast_nonneg, List.length_map, go_sem]; with_reducible rfl))) | (with_reducible refine wZ hTT cfYe_ok noM_ok ?_) | (with_reducible refine wa ?_; refine And.intro ?_ ?_; (focus kernel_rfl)))
        refine roundQ.t 3 [15, 14, 13, 12, 11, 10, 4] hk1 (by simp only [ltB_lbs, ltB_flds, ltB_is, ltB_isl, lI, lT, go_sem]) ⟨hkj1, by rw [hnat]; simp only [go_sem]⟩
    · obtain rfl : k = j + 1 := by omega
      rw [if_neg hkj]
      have hjn : ¬ (j : Int) < 0 := by omega
      have hj' : ((candG ls.length).map encT)[j]? = some (.agg [ii t.1, ii t.2]) := by rw [List.getElem?_map, hj]; rfl
      have hjlI : (j : Int) < (candG ls.length).length := by omega
      have htb := trnB_pose hf hnp (List.mem_of_getElem? hj)
      have htp : poseG ls (trnG now t) = true := by
        unfold firT at ht
        rw [Bool.and_eq_true] at ht
        exact ht.1
      have htd : dI Q (trnG now t) = dI Q now - 1 := by
        unfold firT at ht
        rw [Bool.and_eq_true] at ht
        exact of_decide_eq_true ht.2
      have htk : hasK Q (trnG now t) = true := by
        have := dI_neg (Q := Q) (q := trnG now t)
        rw [htd, decide_eq_false (by omega)] at this
        cases hh : hasK Q (trnG now t) with
        | true => rfl
        | false => rw [hh] at this; cases this
      have htG := dI_dG htk
      have hqz : closedL ((trnG now t).map ii) = true := closedL_is _
      have hql : ((trnG now t).map ii).length = now.length := by rw [List.length_map, trn_len]
      have r2 : out.length + 1 ≤ maxLen := by unfold maxLen; omega
      have r3 : (out.length + 1) * 16 ≤ 140737488355328 := by omega
      obtain ⟨k0, hk0⟩ : ∃ k0, D.toNat - i = k0 + 1 := ⟨D.toNat - i - 1, by omega⟩
      have hk1 : D.toNat - (i + 1) = k0 := by omega
      rw [hk0, hpl] at hpath
      by_cases hlk : ((j + 1 : Nat) : Int) < (candG ls.length).length
      · repeat (first | (with_reducible (first | apply wA | ((fail_if_success (refine RunQ.seq (x := .region 15 _ _) ?_)); (apply wB)) | apply wC | apply wD | apply wE | apply wF | apply wG | apply wH | apply wI | apply wJ | apply wK | apply wL | apply wM | apply wN | apply wO | apply wP | apply wQ rfl | apply wR | apply wS | apply wT | apply wU)) | ((with_reducible (first | apply wV | apply wW | apply wX | (apply wY [] hTT cfYe_ok noM_ok mixed; (focus kernel_rfl)))); (focus (simp only [Tryz.f45, hlk, hjn, List.length_map, go_sem]; with_reducible rfl))) | ((fail_if_success (with_reducible show RunQ _ (.region 15 _ _) _ _)); (with_reducible refine wZ hTT cfYe_ok noM_ok ?_)) | (with_reducible refine wa ?_; refine And.intro ?_ ?_; (focus kernel_rfl)))
        refine RunQ.keep [14, 13, 12, 11, 10, 4] (by simp only [go_sem]; rfl) ?_
        have hd0 : decide (out.length + 1 = 0) = false := by simp
        repeat (first | (with_reducible (first | apply wA | ((fail_if_success (refine RunQ.seq (x := .region 16 _ _) ?_)); (apply wB)) | apply wC | apply wD | apply wE | apply wF | apply wG | apply wH | apply wI | apply wJ | apply wK | apply wL | apply wM | apply wN | apply wO | apply wP | apply wQ rfl | apply wR | apply wS | apply wT | apply wU)) | ((with_reducible (first | apply wV | apply wW | apply wX | (apply wY [] hTT cfYe_ok noM_ok mixed; (focus kernel_rfl)))); (focus (simp only [Tryz.f45, hj', hjlI, r2, r3, Int.toNat_natCast, Int.natCast_nonneg, List.length_map, go_sem]; with_reducible rfl))) | ((fail_if_success (with_reducible show RunQ _ (.region 16 _ _) _ _)); (with_reducible refine wZ hTT cfYe_ok noM_ok ?_)) | (with_reducible refine wa ?_; refine And.intro ?_ ?_; (focus kernel_rfl)))
        refine RunQ.keep [14, 13, 12, 11, 10, 4] (by simp only [go_sem]; rfl) ?_
        refine RunQ.regG hTT cfYe_ok noM_ok ?_
        iterate 7 (apply RegG.step; (focus (simp only [Tryz.f45, cfYe, conRow, c145, hj', hjlI, hdx2, htb, trn_len, closedL_is, and_self, if_true, ltBL_cons, ltB_isl, Int.toNat_natCast, Int.natCast_nonneg, List.length_map, go_sem]; with_reducible rfl)))
        refine RegG.freeze 11 4 rfl rfl hql hqz rfl rfl ?_
        refine RegG.nil ?_
        refine blockQ.n ?_
        refine roundQ.t 3 [13, 12, 11, 10, 4] hlt (by simp only [ltB_lbs, ltB_flds, ltB_is, ltB_isl, lI, lT, go_sem]) ⟨trnG now t, out ++ [t], htp, htk, by omega, by omega, by rw [hpath, hk1]; simp, by simp [hol], by rw [List.length_append, List.map_append, List.length_singleton]; simp only [hd0, go_sem]; rfl⟩
      · repeat (first | (with_reducible (first | apply wA | ((fail_if_success (refine RunQ.seq (x := .region 15 _ _) ?_)); (apply wB)) | apply wC | apply wD | apply wE | apply wF | apply wG | apply wH | apply wI | apply wJ | apply wK | apply wL | apply wM | apply wN | apply wO | apply wP | apply wQ rfl | apply wR | apply wS | apply wT | apply wU)) | ((with_reducible (first | apply wV | apply wW | apply wX | (apply wY [] hTT cfYe_ok noM_ok mixed; (focus kernel_rfl)))); (focus (simp only [Tryz.f45, hlk, hjn, List.length_map, go_sem]; with_reducible rfl))) | ((fail_if_success (with_reducible show RunQ _ (.region 15 _ _) _ _)); (with_reducible refine wZ hTT cfYe_ok noM_ok ?_)) | (with_reducible refine wa ?_; refine And.intro ?_ ?_; (focus kernel_rfl)))
        refine RunQ.keep [14, 13, 12, 11, 10, 4] (by simp only [go_sem]; rfl) ?_
        have hd0 : decide (out.length + 1 = 0) = false := by simp
        repeat (first | (with_reducible (first | apply wA | ((fail_if_success (refine RunQ.seq (x := .region 16 _ _) ?_)); (apply wB)) | apply wC | apply wD | apply wE | apply wF | apply wG | apply wH | apply wI | apply wJ | apply wK | apply wL | apply wM | apply wN | apply wO | apply wP | apply wQ rfl | apply wR | apply wS | apply wT | apply wU)) | ((with_reducible (first | apply wV | apply wW | apply wX | (apply wY [] hTT cfYe_ok noM_ok mixed; (focus kernel_rfl)))); (focus (simp only [Tryz.f45, hj', hjlI, r2, r3, Int.toNat_natCast, Int.natCast_nonneg, List.length_map, go_sem]; with_reducible rfl))) | ((fail_if_success (with_reducible show RunQ _ (.region 16 _ _) _ _)); (with_reducible refine wZ hTT cfYe_ok noM_ok ?_)) | (with_reducible refine wa ?_; refine And.intro ?_ ?_; (focus kernel_rfl)))
        refine RunQ.keep [14, 13, 12, 11, 10, 4] (by simp only [go_sem]; rfl) ?_
        refine RunQ.regG hTT cfYe_ok noM_ok ?_
        iterate 7 (apply RegG.step; (focus (simp only [Tryz.f45, cfYe, conRow, c145, hj', hjlI, hdx2, htb, trn_len, closedL_is, and_self, if_true, ltBL_cons, ltB_isl, Int.toNat_natCast, Int.natCast_nonneg, List.length_map, go_sem]; with_reducible rfl)))
        refine RegG.freeze 11 4 rfl rfl hql hqz rfl rfl ?_
        refine RegG.nil ?_
        refine blockQ.n ?_
        refine roundQ.t 3 [13, 12, 11, 10, 4] hlt (by simp only [ltB_lbs, ltB_flds, ltB_is, ltB_isl, lI, lT, go_sem]) ⟨trnG now t, out ++ [t], htp, htk, by omega, by omega, by rw [hpath, hk1]; simp, by simp [hol], by rw [List.length_append, List.map_append, List.length_singleton]; simp only [hd0, go_sem]; rfl⟩
  · obtain rfl : i = D.toNat := by omega
    have hgt : ¬ (0 : Int) < dI Q now := by omega
    rw [Nat.sub_self, show pathL s ls g Q 0 now = [] from rfl, List.append_nil] at hpath
    rw [hpath]
    repeat (first | (with_reducible (first | apply wA | apply wB | apply wC | apply wD | apply wE | apply wF | apply wG | apply wH | apply wI | apply wJ | apply wK | apply wL | apply wM | apply wN | apply wO | apply wP | apply wQ rfl | apply wR | apply wS | apply wT | apply wU)) | ((with_reducible (first | apply wV | apply wW | apply wX | (apply wY [] hTT cfYe_ok noM_ok mixed; (focus kernel_rfl)))); (focus (simp only [Tryz.f45, cfYe, c103, hd, hdn, hf, hnp, hfl, hixn, hfgn, hgt, gt_iff_lt, Int.toNat_natCast, Int.natCast_nonneg, List.length_map, go_sem]; with_reducible rfl))) | (with_reducible refine wZ hTT cfYe_ok noM_ok ?_) | (with_reducible refine wa ?_; refine And.intro ?_ ?_; (focus kernel_rfl)))
    have htrc : closedL (out.map encT) = true := closedL_map (fun _ => rfl) out
    exact ⟨rfl, rfl, _, rfl, leave_row2 (id := 2) (frz := false) rfl htrc (by simp) rfl⟩
end Go.Pv
namespace Go.Pv
open Go Go.RowKit Go.Proofs
set_option maxRecDepth 10000
set_option maxHeartbeats 4000000
theorem SameTurns_46 (za zb : Z) (a b : List (Int × Int)) (ha : za = .n → a = []) (hb : zb = .n → b = []) (hs : a.length ≤ maxLen) : CallOk Tryz.prog 46 [.sl za (a.map encT), .sl zb (b.map encT)] [] (.ret (.bool (decide (a = b)))) [] := by
  refine CallOk.of0 hTT Tryz.func46 rfl rfl ?_
  unfold maxLen at hs
  by_cases hl : a.length = b.length
  · repeat (first | (with_reducible (first | apply wA | apply wB | apply wC | apply wD | apply wE | apply wF | apply wG | apply wH | apply wI | apply wJ | apply wK | apply wL | apply wM | apply wN | apply wO | apply wP | apply wQ rfl | apply wR | apply wS | apply wT | apply wU)) | ((with_reducible (first | apply wV | apply wW | apply wX | (apply wY [] hTT cf0_ok noM_ok mixed; (focus kernel_rfl)))); (focus (simp only [Tryz.f46, hl, go_sem]; with_reducible rfl))) | (with_reducible refine wZ hTT cf0_ok noM_ok ?_) | (with_reducible refine wa ?_; refine And.intro ?_ ?_; (focus kernel_rfl)))
    refine RunQ.keep [5, 4, 1, 0] (by simp only [go_sem]; rfl) ?_
    refine RunQ.loop (fun i s' => decide (a = b) = decide (a.drop i = b.drop i) ∧ s' = ⟨[(5, ii i), (4, .bool false), (0, .sl za (a.map encT)), (1, .sl zb (b.map encT))], 26, []⟩) b.length ⟨rfl, rfl⟩ ?_
    rintro i _ hi ⟨hm, rfl⟩
    by_cases hlt : i < b.length
    · obtain ⟨x, hx⟩ : ∃ x, a[i]? = some x := ⟨_, List.getElem?_eq_getElem (by omega)⟩
      obtain ⟨y, hy⟩ : ∃ y, b[i]? = some y := ⟨_, List.getElem?_eq_getElem hlt⟩
      have hx' : (a.map encT)[i]? = some (.agg [ii x.1, ii x.2]) := by simp [hx]; rfl
      have hy' : (b.map encT)[i]? = some (.agg [ii y.1, ii y.2]) := by simp [hy]; rfl
      have hlt' : (i : Int) < b.length := by omega
      have hza' : za ≠ .n := fun e => by rw [ha e] at hl; simp at hl; omega
      have hzb' : zb ≠ .n := fun e => by rw [hb e] at hlt; simp at hlt
      have e4 : IntKind.i64.wrap ((i : Int) + 1) = ((i + 1 : Nat) : Int) := wrap_id (by omega) (by omega)
      by_cases hxy : x = y
      · have h1 : (x.fst == y.fst && x.snd == y.snd) = true := by subst hxy; simp
        repeat (first | (with_reducible (first | apply wA | apply wB | apply wC | apply wD | apply wE | apply wF | apply wG | apply wH | apply wI | apply wJ | apply wK | apply wL | apply wM | apply wN | apply wO | apply wP | apply wQ rfl | apply wR | apply wS | apply wT | apply wU)) | ((with_reducible (first | apply wV | apply wW | apply wX | (apply wY [] hTT cf0_ok noM_ok mixed; (focus kernel_rfl)))); (focus (simp only [Tryz.f46, hl, hx', hy', hlt', hza', hzb', e4, h1, go_sem]; with_reducible rfl))) | (with_reducible refine wZ hTT cf0_ok noM_ok ?_) | (with_reducible refine wa ?_; refine And.intro ?_ ?_; (focus kernel_rfl)))
        refine roundQ.t 0 [5, 4, 0, 1] hlt (by simp only [lT, go_sem]) ⟨by rw [hm, decide_step hx hy, decide_eq_true hxy]; rfl, by simp only [go_sem]⟩
      · have h1 : (x.fst == y.fst && x.snd == y.snd) = false := by
          rw [Bool.eq_false_iff]
          intro h
          simp at h
          exact hxy (Prod.ext h.1 h.2)
        repeat (first | (with_reducible (first | apply wA | apply wB | apply wC | apply wD | apply wE | apply wF | apply wG | apply wH | apply wI | apply wJ | apply wK | apply wL | apply wM | apply wN | apply wO | apply wP | apply wQ rfl | apply wR | apply wS | apply wT | apply wU)) | ((with_reducible (first | apply wV | apply wW | apply wX | (apply wY [] hTT cf0_ok noM_ok mixed; (focus kernel_rfl)))); (focus (simp only [Tryz.f46, hl, hx', hy', hlt', hza', hzb', e4, h1, go_sem]; with_reducible rfl))) | (with_reducible refine wZ hTT cf0_ok noM_ok ?_) | (with_reducible refine wa ?_; refine And.intro ?_ ?_; (focus kernel_rfl)))
        refine ⟨rfl, rfl, _, rfl, ?_⟩
        rw [hm, decide_step hx hy, decide_eq_false hxy]; rfl
    · have hlt' : ¬ (i : Int) < b.length := by omega
      repeat (first | (with_reducible (first | apply wA | apply wB | apply wC | apply wD | apply wE | apply wF | apply wG | apply wH | apply wI | apply wJ | apply wK | apply wL | apply wM | apply wN | apply wO | apply wP | apply wQ rfl | apply wR | apply wS | apply wT | apply wU)) | ((with_reducible (first | apply wV | apply wW | apply wX | (apply wY [] hTT cf0_ok noM_ok mixed; (focus kernel_rfl)))); (focus (simp only [Tryz.f46, hl, hlt', go_sem]; with_reducible rfl))) | (with_reducible refine wZ hTT cf0_ok noM_ok ?_) | (with_reducible refine wa ?_; refine And.intro ?_ ?_; (focus kernel_rfl)))
      refine ⟨rfl, rfl, _, rfl, ?_⟩
      rw [hm, List.drop_eq_nil_of_le (by omega), List.drop_eq_nil_of_le (by omega)]; rfl
  · have hl' : ((a.length : Int) != (b.length : Int)) = true := bne_true (by omega)
    repeat (first | (with_reducible (first | apply wA | apply wB | apply wC | apply wD | apply wE | apply wF | apply wG | apply wH | apply wI | apply wJ | apply wK | apply wL | apply wM | apply wN | apply wO | apply wP | apply wQ rfl | apply wR | apply wS | apply wT | apply wU)) | ((with_reducible (first | apply wV | apply wW | apply wX | (apply wY [] hTT cf0_ok noM_ok mixed; (focus kernel_rfl)))); (focus (simp only [Tryz.f46, hl', go_sem]; with_reducible rfl))) | (with_reducible refine wZ hTT cf0_ok noM_ok ?_) | (with_reducible refine wa ?_; refine And.intro ?_ ?_; (focus kernel_rfl)))
    refine ⟨rfl, rfl, _, rfl, ?_⟩
    rw [decide_eq_false (fun e => hl (by rw [e]))]; rfl
def decT : PV → Option (Int × Int)
  | .agg [.int .i64 a, .int .i64 b] => some (a, b)
  | _ => none
theorem decT_inv (x : PV) (a : Int × Int) (h : decT x = some a) : x = encT a := by
  unfold decT at h
  split at h <;> cases h
  rfl
theorem decTs (l : List (Int × Int)) : decL decT (l.map encT) = some l := decL_map (g := encT) (fun _ => rfl) l
def decTs1 : PV → Option (List (Int × Int))
  | .sl z es => if zOk z es = true then decL decT es else none
  | _ => none
theorem decTs1_inv {v : PV} {l : List (Int × Int)} (h : decTs1 v = some l) : ∃ z, v = .sl z (l.map encT) ∧ (z = .n → l = []) := by
  unfold decTs1 at h
  split at h <;> try (cases h; done)
  split at h <;> try (cases h; done)
  rename_i z es hz
  obtain rfl := decL_inv decT_inv h
  refine ⟨z, rfl, fun e => ?_⟩
  subst e
  exact zOk_map hz rfl
theorem decTs1_enc {z : Z} {l : List (Int × Int)} (h : zOk z (l.map encT) = true) : decTs1 (.sl z (l.map encT)) = some l := by
  show (if zOk z (l.map encT) = true then decL decT (l.map encT) else none) = some l
  rw [if_pos h]
  exact decTs l
def c46 : List PV → List Box → Option (PRes × List Box)
  | [a, b], sg => match decTs1 a, decTs1 b with
    | some a, some b => if a.length ≤ maxLen then some (.ret (.bool (decide (a = b))), sg) else none
    | _, _ => none
  | _, _ => none
theorem c46_ok : ConOk Tryz.prog 46 c46 := ConOk.of0 (ent Tryz.func46 rfl) fun args sg r sg' h => by
  unfold c46 at h
  split at h <;> try (cases h; done)
  split at h <;> try (cases h; done)
  rename_i h1 h2
  split at h <;> cases h
  rename_i hc
  obtain ⟨za, rfl, ha⟩ := decTs1_inv h1
  obtain ⟨zb, rfl, hb⟩ := decTs1_inv h2
  exact ⟨_, rfl, rfl, by rw [ltBL_cons, ltB_sl, lT, ltBL_cons, ltB_sl, lT]; rfl, SameTurns_46 _ _ _ _ ha hb hc⟩
theorem trsP_z (l : List (Int × Int)) : ∃ z, trsP l = .sl z (l.map encT) ∧ zOk z (l.map encT) = true := by
  refine ⟨_, rfl, ?_⟩
  cases l <;> rfl
def c42 : List PV → List Box → Option (PRes × List Box)
  | [v, w, p, q], sg => match decFig v, decStg w, decIs1 p, decIs1 q with
    | some (s, ls), some g, some a, some b => some (.ret (pathR s ls g a b), sg)
    | _, _, _, _ => none
  | _, _ => none
theorem c42_ok : ConOk Tryz.prog 42 c42 := ConOk.of0 (ent Tryz.func42 rfl) fun args sg r sg' h => by
  unfold c42 at h
  split at h <;> try (cases h; done)
  split at h <;> cases h
  rename_i h1 h2 h3 h4
  obtain ⟨z, rfl, hz⟩ := decFig_inv h1
  obtain ⟨zh, zr, rfl, hh, hr⟩ := decStg_inv h2
  obtain ⟨zp, rfl, hp⟩ := decIs1_inv h3
  obtain ⟨zq, rfl, hq⟩ := decIs1_inv h4
  exact ⟨_, rfl, rfl, by rw [ltBL_cons, ltB_fig, ltBL_cons, ltB_stg, ltBL_cons, ltB_isl, ltBL_cons, ltB_isl]; rfl, Path_42 _ _ _ _ _ _ _ _ _ _ (zOk_n' hz) hh hr (zOk_n' hp) (zOk_n' hq)⟩
def c45 : List PV → List Box → Option (PRes × List Box)
  | [v, w, p, q], sg => match decFig v, decStg w, decIs1 p, decIs1 q with
    | some (s, ls), some g, some a, some b => if figB s ls = true ∧ stgG ls g = true ∧ poseG ls a = true ∧ poseG ls b = true ∧ finG s ls g b = true then some (.ret (rpathR s ls g a b), sg) else none
    | _, _, _, _ => none
  | _, _ => none
theorem c45_ok : ConOk Tryz.prog 45 c45 := ConOk.of0 (ent Tryz.func45 rfl) fun args sg r sg' h => by
  unfold c45 at h
  split at h <;> try (cases h; done)
  split at h <;> try (cases h; done)
  rename_i h1 h2 h3 h4
  split at h <;> cases h
  rename_i hc
  obtain ⟨z, rfl, hz⟩ := decFig_inv h1
  obtain ⟨zh, zr, rfl, hh, hr⟩ := decStg_inv h2
  obtain ⟨zp, rfl, hp⟩ := decIs1_inv h3
  obtain ⟨zq, rfl, hq⟩ := decIs1_inv h4
  exact ⟨_, rfl, rfl, by rw [ltBL_cons, ltB_fig, ltBL_cons, ltB_stg, ltBL_cons, ltB_isl, ltBL_cons, ltB_isl]; rfl, RPath_45 _ _ _ _ _ _ _ _ _ _ (zOk_n' hz) hh hr (zOk_n' hp) (zOk_n' hq) hc.1 hc.2.1 hc.2.2.1 hc.2.2.2.1 hc.2.2.2.2⟩
theorem pathL_len {s : Int} {ls : List Lb} {g : Stg} {Q : Dst} : ∀ (n : Nat) (now : List Int), (pathL s ls g Q n now).length ≤ n
  | 0, _ => Nat.le_refl _
  | n + 1, now => by
    show (match (nextG s ls g now).find? _ with | some x => x.1 :: pathL s ls g Q n x.2 | none => pathL s ls g Q n now).length ≤ n + 1
    split
    · have := pathL_len (s := s) (ls := ls) (g := g) (Q := Q) n (by assumption : ((Int × Int) × List Int)).2
      rw [List.length_cons]; omega
    · have := pathL_len (s := s) (ls := ls) (g := g) (Q := Q) n now
      omega
end Go.Pv
