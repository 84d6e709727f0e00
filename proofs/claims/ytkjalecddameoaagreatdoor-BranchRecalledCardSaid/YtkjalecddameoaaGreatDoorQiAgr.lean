/- Contracts: plays that agree with what is remembered, the program's and the reference's. -/
import Derived.Test.YtkjalecddameoaaGreatDoorQiTab
set_option linter.all false
namespace Go.Pv
open Go Go.RowKit Go.Proofs
set_option maxRecDepth 200000
set_option maxHeartbeats 8000000
theorem agr_step {p s : List Int} {i : Nat} {x y : Int} (hp : p[i]? = some x) (hs : s[i]? = some y) : agrB (p.drop i) (s.drop i) = ((decide (y < 0) || decide (x = y)) && agrB (p.drop (i + 1)) (s.drop (i + 1))) := by rw [drop_get hp, drop_get hs]; rfl
theorem agr_end {p s : List Int} {i : Nat} (hp : p.length ≤ i) (hs : s.length ≤ i) : agrB (p.drop i) (s.drop i) = true := by rw [List.drop_eq_nil_of_le hp, List.drop_eq_nil_of_le hs]; rfl
theorem agree1_99 (a b : Int) : CallOk Tryz.prog 99 [ii a, ii b] [] (.ret (.bool (decide (b < 0) || decide (a = b)))) [] := by
 refine CallOk.of0 hTT Tryz.func99 rfl rfl ?_
 by_cases h1 : b < 0
 ·have h2 : decide (b < 0) = true := decide_eq_true h1
  repeat (with_reducible (first | apply nx | apply wQ rfl | ((first | apply wV | apply wW | apply wX | (apply wy cf0_ok; (focus kernel_rfl))); (focus (simp only [Tryz.f99, h1, h2, go_sem]; rfl))) | refine wz cf0_ok ?_ | (refine wa ?_; refine And.intro ?_ ?_; (focus kernel_rfl))))
  exact ⟨rfl, rfl, _, rfl, by rw [h2]; rfl⟩
 ·have h2 : decide (b < 0) = false := decide_eq_false h1
  have h3 : (a == b) = decide (a = b) := by by_cases h : a = b <;> simp [h]
  repeat (with_reducible (first | apply nx | apply wQ rfl | ((first | apply wV | apply wW | apply wX | (apply wy cf0_ok; (focus kernel_rfl))); (focus (simp only [Tryz.f99, h1, h2, h3, go_sem]; rfl))) | refine wz cf0_ok ?_ | (refine wa ?_; refine And.intro ?_ ?_; (focus kernel_rfl))))
  exact ⟨rfl, rfl, _, rfl, by rw [h2]; rfl⟩
def c99 : List PV → List Box → Option (PRes × List Box)
 | [.int .i64 a, .int .i64 b], sg => some (.ret (.bool (decide (b < 0) || decide (a = b))), sg)
 | _, _ => none
theorem c99_ok : ConOk Tryz.prog 99 c99 := ConOk.of0 (ent Tryz.func99 rfl) fun args sg r sg' h => by
 unfold c99 at h
 split at h <;> cases h
 exact ⟨_, rfl, rfl, rfl, agree1_99 _ _⟩
def cfQ1 : CallF := cfAdd cf0 99 c99
theorem cfQ1_ok : CallFOk Tryz.prog cfQ1 := cfAdd_ok cf0_ok c99_ok
theorem EqualFunc_98 (za zb : Z) (p s : List Int) (hp : za = .n → p = []) (hs : zb = .n → s = []) (hl : p.length ≤ 100000) : CallOk Tryz.prog 98 [.sl za (p.map ii), .sl zb (s.map ii), .fn (.func 99) [] []] [] (.ret (.bool (agrB p s))) [] := by
 refine CallOk.of0 hTT Tryz.func98 rfl rfl ?_
 by_cases hab : p.length = s.length
 ·repeat (with_reducible (first | apply nx | apply wQ rfl | ((first | apply wV | apply wW | apply wX | (apply wy cf0_ok; (focus kernel_rfl))); (focus (simp only [Tryz.f98, hab, List.length_map, go_sem]; rfl))) | refine wz cf0_ok ?_ | (refine wa ?_; refine And.intro ?_ ?_; (focus kernel_rfl))))
  refine RunQ.keep [17, 16, 15, 2, 1] (by simp only [go_sem]; rfl) ?_
  refine RunQ.loop (fun i s' => agrB p s = agrB (p.drop i) (s.drop i) ∧ s' = ⟨[(17, ii (i : Nat)), (16, ii (s.length : Nat)), (15, .sl za (p.map ii)), (1, .sl zb (s.map ii)), (2, .fn (.func 99) [] [])], 32, []⟩) s.length ⟨rfl, by simp only [hab, List.length_map, go_sem]⟩ ?_
  rintro i _ hi ⟨hm, rfl⟩
  by_cases hlt : i < s.length
  ·obtain ⟨x, hx⟩ : ∃ x, p[i]? = some x := ⟨_, List.getElem?_eq_getElem (by omega)⟩
   obtain ⟨y, hy⟩ : ∃ y, s[i]? = some y := ⟨_, List.getElem?_eq_getElem hlt⟩
   have hx' : (p.map ii)[i]? = some (ii x) := map_get hx
   have hy' : (s.map ii)[i]? = some (ii y) := map_get hy
   have hlt' : (i : Int) < s.length := by omega
   have hza : za ≠ .n := fun e => by rw [hp e] at hab; simp at hab; omega
   have hzb : zb ≠ .n := fun e => by rw [hs e] at hlt; simp at hlt
   have e4 : IntKind.i64.wrap ((i : Int) + 1) = ((i + 1 : Nat) : Int) := wrap_id (by omega) (by omega)
   rw [agr_step hx hy] at hm
   cases hq : (decide (y < 0) || decide (x = y))
   ·rw [hq] at hm
    repeat (with_reducible (first | apply nx | apply wQ rfl | ((first | apply wV | apply wW | apply wX | (apply wy cfQ1_ok; (focus kernel_rfl))); (focus (simp only [Tryz.f98, cfQ1, c99, hab, hx', hy', hlt', hza, hzb, hq, List.length_map, go_sem]; rfl))) | refine wz cfQ1_ok ?_ | (refine wa ?_; refine And.intro ?_ ?_; (focus kernel_rfl))))
    exact ⟨rfl, rfl, _, rfl, by rw [hm]; rfl⟩
   ·rw [hq, Bool.true_and] at hm
    repeat (with_reducible (first | apply nx | apply wQ rfl | ((first | apply wV | apply wW | apply wX | (apply wy cfQ1_ok; (focus kernel_rfl))); (focus (simp only [Tryz.f98, cfQ1, c99, hab, hx', hy', hlt', hza, hzb, hq, e4, List.length_map, go_sem]; rfl))) | refine wz cfQ1_ok ?_ | (refine wa ?_; refine And.intro ?_ ?_; (focus kernel_rfl))))
    refine roundQ.t 0 [17, 16, 15, 2, 1] hlt (by simp only [ltB_is, ltB_sl, go_sem]) ⟨hm, by simp only [go_sem]⟩
  ·have hlt' : ¬ (i : Int) < s.length := by omega
   rw [agr_end (by omega) (by omega)] at hm
   repeat (with_reducible (first | apply nx | apply wQ rfl | ((first | apply wV | apply wW | apply wX | (apply wy cf0_ok; (focus kernel_rfl))); (focus (simp only [Tryz.f98, hlt', List.length_map, go_sem]; rfl))) | refine wz cf0_ok ?_ | (refine wa ?_; refine And.intro ?_ ?_; (focus kernel_rfl))))
   exact ⟨rfl, rfl, _, rfl, by rw [hm]; rfl⟩
 ·have hl' : ((p.length : Int) != (s.length : Int)) = true := bne_true (by omega)
  have hm : agrB p s = false := by
   cases h : agrB p s
   ·rfl
   ·exact absurd (agr_len h) hab
  repeat (with_reducible (first | apply nx | apply wQ rfl | ((first | apply wV | apply wW | apply wX | (apply wy cf0_ok; (focus kernel_rfl))); (focus (simp only [Tryz.f98, hl', List.length_map, go_sem]; rfl))) | refine wz cf0_ok ?_ | (refine wa ?_; refine And.intro ?_ ?_; (focus kernel_rfl))))
  exact ⟨rfl, rfl, _, rfl, by rw [hm]; rfl⟩
def c98 : List PV → List Box → Option (PRes × List Box)
 | [v, w, .fn (.func 99) [] []], sg => match decIs1 v, decIs1 w with
  | some a, some b => if a.length ≤ 100000 then some (.ret (.bool (agrB a b)), sg) else none
  | _, _ => none
 | _, _ => none
theorem c98_ok : ConOk Tryz.prog 98 c98 := ConOk.of0 (ent Tryz.func98 rfl) fun args sg r sg' h => by
 unfold c98 at h
 split at h <;> try (cases h; done)
 split at h <;> try (cases h; done)
 rename_i h1 h2
 split at h <;> cases h
 rename_i hc
 obtain ⟨za, rfl, ha⟩ := decIs1_inv h1
 obtain ⟨zb, rfl, hb⟩ := decIs1_inv h2
 exact ⟨_, rfl, rfl, by rw [ltBL_cons, ltB_isl, ltBL_cons, ltB_isl]; rfl, EqualFunc_98 _ _ _ _ ha hb hc⟩
theorem Agree_43 (za zb : Z) (p s : List Int) (hp : za = .n → p = []) (hs : zb = .n → s = []) (hl : p.length ≤ 100000) : CallOk Tryz.prog 43 [.sl za (p.map ii), .sl zb (s.map ii)] [] (.ret (.bool (agrB p s))) [] := by
 refine CallOk.of0 hTT Tryz.func43 rfl rfl ?_
 by_cases hab : p.length = s.length
 ·repeat (with_reducible (first | apply nx | apply wQ rfl | ((first | apply wV | apply wW | apply wX | (apply wy cf0_ok; (focus kernel_rfl))); (focus (simp only [Tryz.f43, hab, List.length_map, go_sem]; rfl))) | refine wz cf0_ok ?_ | (refine wa ?_; refine And.intro ?_ ?_; (focus kernel_rfl))))
  refine RunQ.keep [5, 4, 0, 1] (by simp only [go_sem]; rfl) ?_
  refine RunQ.loop (fun i s' => agrB p s = agrB (p.drop i) (s.drop i) ∧ s' = ⟨[(5, ii (i : Nat)), (4, .bool false), (0, .sl za (p.map ii)), (1, .sl zb (s.map ii))], 33, []⟩) s.length ⟨rfl, by simp only [go_sem]⟩ ?_
  rintro i _ hi ⟨hm, rfl⟩
  by_cases hlt : i < s.length
  ·obtain ⟨x, hx⟩ : ∃ x, p[i]? = some x := ⟨_, List.getElem?_eq_getElem (by omega)⟩
   obtain ⟨y, hy⟩ : ∃ y, s[i]? = some y := ⟨_, List.getElem?_eq_getElem hlt⟩
   have hx' : (p.map ii)[i]? = some (ii x) := map_get hx
   have hy' : (s.map ii)[i]? = some (ii y) := map_get hy
   have hlt' : (i : Int) < s.length := by omega
   have hza : za ≠ .n := fun e => by rw [hp e] at hab; simp at hab; omega
   have hzb : zb ≠ .n := fun e => by rw [hs e] at hlt; simp at hlt
   have e4 : IntKind.i64.wrap ((i : Int) + 1) = ((i + 1 : Nat) : Int) := wrap_id (by omega) (by omega)
   rw [agr_step hx hy] at hm
   by_cases hy0 : y < 0
   ·have hge : ¬ (0 ≤ y) := by omega
    rw [decide_eq_true hy0, Bool.true_or, Bool.true_and] at hm
    repeat (with_reducible (first | apply nx | apply wQ rfl | ((first | apply wV | apply wW | apply wX | (apply wy cf0_ok; (focus kernel_rfl))); (focus (simp only [Tryz.f43, hab, hx', hy', hlt', hza, hzb, hge, e4, ge_iff_le, List.length_map, go_sem]; rfl))) | refine wz cf0_ok ?_ | (refine wa ?_; refine And.intro ?_ ?_; (focus kernel_rfl))))
    refine roundQ.t 0 [5, 4, 0, 1] hlt (by simp only [ltB_is, ltB_sl, go_sem]) ⟨hm, by simp only [go_sem]⟩
   ·have hge : 0 ≤ y := by omega
    rw [decide_eq_false hy0, Bool.false_or] at hm
    by_cases hxy : x = y
    ·have hne : (y != x) = false := by simp [hxy]
     rw [decide_eq_true hxy, Bool.true_and] at hm
     repeat (with_reducible (first | apply nx | apply wQ rfl | ((first | apply wV | apply wW | apply wX | (apply wy cf0_ok; (focus kernel_rfl))); (focus (simp only [Tryz.f43, hab, hx', hy', hlt', hza, hzb, hge, hne, e4, ge_iff_le, List.length_map, go_sem]; rfl))) | refine wz cf0_ok ?_ | (refine wa ?_; refine And.intro ?_ ?_; (focus kernel_rfl))))
     refine roundQ.t 0 [5, 4, 0, 1] hlt (by simp only [ltB_is, ltB_sl, go_sem]) ⟨hm, by simp only [go_sem]⟩
    ·have hne : (y != x) = true := bne_true (fun e => hxy e.symm)
     rw [decide_eq_false hxy, Bool.false_and] at hm
     repeat (with_reducible (first | apply nx | apply wQ rfl | ((first | apply wV | apply wW | apply wX | (apply wy cf0_ok; (focus kernel_rfl))); (focus (simp only [Tryz.f43, hab, hx', hy', hlt', hza, hzb, hge, hne, e4, ge_iff_le, List.length_map, go_sem]; rfl))) | refine wz cf0_ok ?_ | (refine wa ?_; refine And.intro ?_ ?_; (focus kernel_rfl))))
     exact ⟨rfl, rfl, _, rfl, by rw [hm]; rfl⟩
  ·have hlt' : ¬ (i : Int) < s.length := by omega
   rw [agr_end (by omega) (by omega)] at hm
   repeat (with_reducible (first | apply nx | apply wQ rfl | ((first | apply wV | apply wW | apply wX | (apply wy cf0_ok; (focus kernel_rfl))); (focus (simp only [Tryz.f43, hab, hlt', List.length_map, go_sem]; rfl))) | refine wz cf0_ok ?_ | (refine wa ?_; refine And.intro ?_ ?_; (focus kernel_rfl))))
   exact ⟨rfl, rfl, _, rfl, by rw [hm]; rfl⟩
 ·have hl' : ((p.length : Int) != (s.length : Int)) = true := bne_true (by omega)
  have hm : agrB p s = false := by
   cases h : agrB p s
   ·rfl
   ·exact absurd (agr_len h) hab
  repeat (with_reducible (first | apply nx | apply wQ rfl | ((first | apply wV | apply wW | apply wX | (apply wy cf0_ok; (focus kernel_rfl))); (focus (simp only [Tryz.f43, hl', List.length_map, go_sem]; rfl))) | refine wz cf0_ok ?_ | (refine wa ?_; refine And.intro ?_ ?_; (focus kernel_rfl))))
  exact ⟨rfl, rfl, _, rfl, by rw [hm]; rfl⟩
def c43 : List PV → List Box → Option (PRes × List Box)
 | [v, w], sg => match decIs1 v, decIs1 w with
  | some a, some b => if a.length ≤ 100000 then some (.ret (.bool (agrB a b)), sg) else none
  | _, _ => none
 | _, _ => none
theorem c43_ok : ConOk Tryz.prog 43 c43 := ConOk.of0 (ent Tryz.func43 rfl) fun args sg r sg' h => by
 unfold c43 at h
 split at h <;> try (cases h; done)
 split at h <;> try (cases h; done)
 rename_i h1 h2
 split at h <;> cases h
 rename_i hc
 obtain ⟨za, rfl, ha⟩ := decIs1_inv h1
 obtain ⟨zb, rfl, hb⟩ := decIs1_inv h2
 exact ⟨_, rfl, rfl, by rw [ltBL_cons, ltB_isl, ltBL_cons, ltB_isl]; rfl, Agree_43 _ _ _ _ ha hb hc⟩
end Go.Pv
namespace Go.Pv
open Go Go.RowKit Go.Proofs
set_option maxRecDepth 200000
set_option maxHeartbeats 8000000
def agreesR (s : Sty) (q : List Int) : PV := if (s.story && areB s.sc.length q (-1)) = true then .tuple [plsV (agreesB (playsB s.e s.sc s.rl) q), ii 0] else .tuple [.sl .n [], ii 2]
theorem agrees_take {ps : List (List Int)} {q x : List Int} {i : Nat} (h : ps[i]? = some x) : agreesB (ps.take (i + 1)) q = agreesB (ps.take i) q ++ if agrB x q = true then [x] else [] := by
 unfold agreesB
 rw [List.take_add_one, h, List.filter_append]
 congr 1
 cases ha : agrB x q <;> simp [ha]
theorem agrees_len (ps : List (List Int)) (q : List Int) : (agreesB ps q).length ≤ ps.length := List.length_filter_le ..
def cfR1 : CallF := cfAdd (cfAdd cfZ 98 c98) 43 c43
theorem cfR1_ok : CallFOk Tryz.prog cfR1 := cfAdd_ok (cfAdd_ok cfZ_ok c98_ok) c43_ok
theorem leave_pls {sg : List Box} {id : Nat} {e : TypeId} {l : List (List Int)} {frz : Bool} {n : Int} (h : sg[id]? = some (.row (decide (l.length = 0)) e 1 (l.map slx) frz)) : leaveC0 0 (.tuple [.ms id l.length, ii n]) sg = (.tuple [plsV l, ii n], []) := by
 have := leave_tup2 (m := l.length) (d := ii n) h (closedL_slx l) (by rw [List.length_map]) rfl
 exact this
theorem Agrees_38 (s : Sty) (hok : s.ok = true) (z : Z) (q : List Int) (hz : zOk z (q.map ii) = true) : CallOk Tryz.prog 38 [.agg s.cells, .sl z (q.map ii)] [] (.ret (agreesR s q)) [] := by
 refine CallOk.ofF hTT Tryz.func38 rfl rfl ?_
 have hd := decSt_cells s hok
 have h1 := closedL_sns s.sc
 have h2 := closedL_rzs s.rz
 have hdq : decIs1 (.sl z (q.map ii)) = some q := decIs1_enc hz
 have hcq := closedL_is q
 unfold agreesR
 cases hst : s.story
 ·repeat (with_reducible (first | apply nx | apply wQ rfl | ((first | apply wV | apply wW | apply wX | (apply wy cfR1_ok; (focus kernel_rfl))); (focus (simp only [Tryz.f38, cfR1, cfZ, c87, hd, hst, h1, h2, go_sem]; rfl))) | refine wz cfR1_ok ?_ | (refine wa ?_; refine And.intro ?_ ?_; (focus kernel_rfl))))
  exact ⟨rfl, rfl, _, rfl, leave_closed rfl⟩
 have hS := Sty.story_ok hst
 have h8 : s.sc.length ≤ 1000 := by have := hS.s8; omega
 cases ha : areB s.sc.length q (-1)
 ·repeat (with_reducible (first | apply nx | apply wQ rfl | ((first | apply wV | apply wW | apply wX | (apply wy cfR1_ok; (focus kernel_rfl))); (focus (simp only [Tryz.f38, cfR1, cfZ, c87, c90, hd, hst, hdq, hcq, ha, h1, h2, h8, go_sem]; rfl))) | refine wz cfR1_ok ?_ | (refine wa ?_; refine And.intro ?_ ?_; (focus kernel_rfl))))
  exact ⟨rfl, rfl, _, rfl, leave_closed rfl⟩
 have hp := Sty.story_parts hst
 have hdt := decTl_told s hok hst
 have h3 := closedL_is s.mm
 have h4 := closedL_is s.ln
 have h5 := closedL_slx (playsB s.e s.sc s.rl)
 have hP40 := plays_len_le hS
 have hfine := hS.plays_fine
 repeat (with_reducible (first | apply nx | apply wQ rfl | ((first | apply wV | apply wW | apply wX | (apply wy cfR1_ok; (focus kernel_rfl))); (focus (simp only [Tryz.f38, cfR1, cfZ, c87, c88, c89, c90, plsV_def, hd, hst, hp, hdt, hdq, hcq, ha, h1, h2, h3, h4, h5, h8, List.length_map, go_sem]; rfl))) | refine wz cfR1_ok ?_ | (refine wa ?_; refine And.intro ?_ ?_; (focus kernel_rfl))))
 have hzn := plZ_n (l := playsB s.e s.sc s.rl)
 generalize plZ (playsB s.e s.sc s.rl) = zz at *
 generalize playsB s.e s.sc s.rl = P at *
 refine RunQ.keep [22, 21, 20, 6, 1] (by simp only [go_sem]; rfl) ?_
 refine RunQ.nilRow 6 26 1 (by simp only [go_sem]) (by simp only [go_sem]; rfl) (by simp only [go_sem]; rfl) ?_
 refine RunQ.loop (fun i s' => s' = ⟨[(22, ii (i : Nat)), (21, ii (P.length : Nat)), (20, .sl zz (P.map slx)), (6, .ms 1 (agreesB (P.take i) q).length), (1, .sl z (q.map ii))], 35, [.var s.cells false, .row (decide ((agreesB (P.take i) q).length = 0)) 26 1 ((agreesB (P.take i) q).map slx) false]⟩) P.length (by simp only [go_sem]; rfl) ?_
 rintro i _ hi rfl
 by_cases hlt : i < P.length
 ·obtain ⟨x, hx⟩ : ∃ x, P[i]? = some x := ⟨_, List.getElem?_eq_getElem hlt⟩
  have hx' : (P.map slx)[i]? = some (.sl .a (x.map ii)) := map_get hx
  have hlt' : (i : Int) < P.length := by omega
  have hzz : zz ≠ .n := fun e => by rw [hzn e] at hlt; simp at hlt
  have e4 : IntKind.i64.wrap ((i : Int) + 1) = ((i + 1 : Nat) : Int) := wrap_id (by omega) (by omega)
  have hdx : decIs1 (.sl .a (x.map ii)) = some x := decIs1_enc rfl
  have hcx := closedL_is x
  have hxl : x.length ≤ 100000 := by have := hfine x (List.mem_of_getElem? hx); omega
  have htk := agrees_take (q := q) hx
  have hMl : (agreesB (P.take i) q).length ≤ 40 := Nat.le_trans (agrees_len _ _) (by rw [List.length_take]; omega)
  generalize agreesB (P.take i) q = A at htk hMl ⊢
  cases hag : agrB x q
  ·rw [hag, if_neg (by simp), List.append_nil] at htk
   repeat (with_reducible (first | apply nx | apply wQ rfl | ((first | apply wV | apply wW | apply wX | (apply wy cfR1_ok; (focus kernel_rfl))); (focus (simp only [Tryz.f38, cfR1, c98, hx', hlt', hzz, hdx, hdq, hcx, hcq, hxl, hag, e4, List.length_map, go_sem]; rfl))) | refine wz cfR1_ok ?_ | (refine wa ?_; refine And.intro ?_ ?_; (focus kernel_rfl))))
   refine roundQ.t 2 [22, 21, 20, 6, 1] hlt (by simp only [ltB_sns, ltB_rzs, ltB_is, ltB_sl, ltBL_slx, go_sem]) (by rw [htk]; simp only [go_sem])
  ·rw [hag, if_pos rfl] at htk
   have q1 : (A.length + 1) * 24 ≤ 140737488355328 := by omega
   have q2 : A.length + 1 ≤ maxLen := by unfold maxLen; omega
   have hl2 : ltBL 2 (A.map slx ++ [.sl .a (x.map ii)]) = true := by
    have := ltBL_slx 2 (A ++ [x])
    rw [List.map_append] at this
    exact this
   have hm2 : (A ++ [x]).map slx = A.map slx ++ [.sl .a (x.map ii)] := by rw [List.map_append]; rfl
   have hn2 : (A ++ [x]).length = A.length + 1 := by simp
   have hd1 : decide (A.length + 1 = 0) = false := by simp
   repeat (with_reducible (first | apply nx | apply wQ rfl | ((first | apply wV | apply wW | apply wX | (apply wy cfR1_ok; (focus kernel_rfl))); (focus (simp only [Tryz.f38, cfR1, c98, hx', hlt', hzz, hdx, hdq, hcx, hcq, hxl, hag, e4, q1, q2, List.length_map, go_sem]; rfl))) | refine wz cfR1_ok ?_ | (refine wa ?_; refine And.intro ?_ ?_; (focus kernel_rfl))))
   refine roundQ.t 2 [22, 21, 20, 6, 1] hlt (by simp only [ltB_sns, ltB_rzs, ltB_is, ltB_sl, ltBL_slx, hl2, go_sem]) (by rw [htk, hm2, hn2, hd1]; simp only [go_sem])
 ·have hlt' : ¬ (i : Int) < P.length := by omega
  obtain rfl : i = P.length := by omega
  rw [List.take_length]
  repeat (with_reducible (first | apply nx | apply wQ rfl | ((first | apply wV | apply wW | apply wX | (apply wy cf0_ok; (focus kernel_rfl))); (focus (simp only [Tryz.f38, hlt', List.length_map, go_sem]; rfl))) | refine wz cf0_ok ?_ | (refine wa ?_; refine And.intro ?_ ?_; (focus kernel_rfl))))
  exact ⟨rfl, rfl, _, rfl, leave_pls (id := 1) rfl⟩
end Go.Pv
