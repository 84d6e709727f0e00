/- The law BranchRecalled: its function returns true, whatever it is given. -/
import Derived.Test.YtkjalecddameoaaGreatDoorQjFollows
import Derived.Test.YtkjalecddameoaaGreatDoorQjListed
set_option linter.all false
namespace Go.Pv
open Go Go.RowKit Go.Proofs
set_option maxRecDepth 200000
set_option maxHeartbeats 8000000
theorem forg_none : ∀ l : List Int, forgG l [] = l
 | [] => rfl
 | _ :: _ => rfl
theorem forg_set : ∀ (p g : List Int) (i : Nat), i < p.length → forgG (p.take (i + 1)) g ++ p.drop (i + 1) = if (∃ x, g[i]? = some x ∧ 0 < x) then (forgG (p.take i) g ++ p.drop i).set i (-1) else forgG (p.take i) g ++ p.drop i
 | [], _, _, h => by simp at h
 | a :: p, [], i, h => by
  rw [forg_none, forg_none, List.take_append_drop, List.take_append_drop, if_neg]
  rintro ⟨x, hx, _⟩
  cases hx
 | a :: p, x :: g, 0, _ => by
  show (if 0 < x then -1 else a) :: (forgG [] g ++ p) = _
  have e : forgG (([] : List Int)) g = [] := by cases g <;> rfl
  show (if 0 < x then -1 else a) :: (forgG [] g ++ p) = if _ then (forgG [] (x :: g) ++ a :: p).set 0 (-1) else forgG [] (x :: g) ++ a :: p
  have e2 : forgG (([] : List Int)) (x :: g) = [] := rfl
  rw [e, e2]
  by_cases hx : 0 < x
  ·rw [if_pos hx, if_pos ⟨x, rfl, hx⟩]; rfl
  ·rw [if_neg hx, if_neg]
   ·rfl
   ·rintro ⟨y, hy, hy0⟩
    cases hy
    exact hx hy0
 | a :: p, x :: g, i + 1, h => by
  have ih := forg_set p g i (by simpa using h)
  show (if 0 < x then -1 else a) :: (forgG (p.take (i + 1)) g ++ p.drop (i + 1)) = if _ then ((if 0 < x then -1 else a) :: (forgG (p.take i) g ++ p.drop i)).set (i + 1) (-1) else (if 0 < x then -1 else a) :: (forgG (p.take i) g ++ p.drop i)
  rw [ih, List.getElem?_cons_succ]
  by_cases hc : ∃ x, g[i]? = some x ∧ 0 < x
  ·rw [if_pos hc, if_pos hc, List.set_cons_succ]
  ·rw [if_neg hc, if_neg hc]
theorem forg_mem : ∀ {p g : List Int} {x : Int}, x ∈ forgG p g → x = -1 ∨ x ∈ p
 | [], _, _, h => by cases h
 | _ :: _, [], _, h => .inr h
 | a :: p, y :: g, x, h => by
  have h' : x ∈ (if 0 < y then -1 else a) :: forgG p g := h
  rcases List.mem_cons.1 h' with e | h'
  ·split at e
   ·exact .inl e
   ·exact .inr (by rw [e]; exact List.mem_cons_self)
  ·rcases forg_mem h' with e | e
   ·exact .inl e
   ·exact .inr (List.mem_cons_of_mem _ e)
theorem areB_of {n : Nat} {l : List Int} {a : Int} (h1 : l.length ≤ 10) (h2 : ∀ x ∈ l, a ≤ x ∧ x < n) : areB n l a = true := by
 unfold areB
 rw [decide_eq_true h1, Bool.true_and, List.all_eq_true]
 exact fun x hx => inB_iff.2 (by have := h2 x hx; omega)
def cfV1 : CallF := cfAdd (cfAdd (cfAdd cfT1 27 c27) 42 chas) 43 c43
theorem cfV1_ok (hk : ConOk Tryz.prog 21 c21) : CallFOk Tryz.prog cfV1 := cfAdd_ok (cfAdd_ok (cfAdd_ok (cfT1_ok hk) c27_ok) chas42_ok) c43_ok
theorem law_recalled (hk : ConOk Tryz.prog 21 c21) (s : Sty) (hok : s.ok = true) (w : Int) (z : Z) (g : List Int) (hz : zOk z (g.map ii) = true) : CallOk Tryz.prog 7 [.agg s.cells, ii w, .sl z (g.map ii)] [] (.ret (.bool true)) [] := by
 refine CallOk.of0 hTT Tryz.func7 rfl rfl ?_
 have hd := decSt_cells s hok
 have h1 := closedL_sns s.sc
 have h2 := closedL_rzs s.rz
 have hdg : decIs1 (.sl z (g.map ii)) = some g := decIs1_enc hz
 have hcg := closedL_is g
 cases h0 : shortB s
 ·repeat (with_reducible (first | apply nx | apply wQ rfl | ((first | apply wV | apply wW | apply wX | (apply wy (cfV1_ok hk); (focus kernel_rfl))); (focus (simp only [Tryz.f7, cfV1, cfT1, cfLc, cfLb, cfLa, c19, c21, hd, h0, h1, h2, go_sem]; rfl))) | refine wz (cfV1_ok hk) ?_ | (refine wa ?_; refine And.intro ?_ ?_; (focus kernel_rfl))))
  exact ⟨rfl, rfl, _, rfl, rfl⟩
 cases hst : s.story
 ·repeat (with_reducible (first | apply nx | apply wQ rfl | ((first | apply wV | apply wW | apply wX | (apply wy (cfV1_ok hk); (focus kernel_rfl))); (focus (simp only [Tryz.f7, cfV1, cfT1, cfLc, cfLb, cfLa, c19, c20, c21, hd, h0, hst, h1, h2, go_sem]; rfl))) | refine wz (cfV1_ok hk) ?_ | (refine wa ?_; refine And.intro ?_ ?_; (focus kernel_rfl))))
  exact ⟨rfl, rfl, _, rfl, rfl⟩
 by_cases hl : g.length ≤ 12
 case neg =>
  have hl' : decide (g.length ≤ 12) = false := decide_eq_false hl
  repeat (with_reducible (first | apply nx | apply wQ rfl | ((first | apply wV | apply wW | apply wX | (apply wy (cfV1_ok hk); (focus kernel_rfl))); (focus (simp only [Tryz.f7, cfV1, cfT1, cfLc, cfLb, cfLa, c19, c20, c21, c30, hd, hdg, hcg, hl', h0, hst, h1, h2, go_sem]; rfl))) | refine wz (cfV1_ok hk) ?_ | (refine wa ?_; refine And.intro ?_ ?_; (focus kernel_rfl))))
  exact ⟨rfl, rfl, _, rfl, rfl⟩
 have hl' : decide (g.length ≤ 12) = true := decide_eq_true hl
 have hO := Sty.story_ok hst
 have k2 : s.sc.length ≤ 1000 := by have := hO.s8; omega
 have hP : playsR s = .tuple [.sl (plZ (playsB s.e s.sc s.rl)) ((playsB s.e s.sc s.rl).map slx), ii 0] := by unfold playsR; rw [hst]; rfl
 have hP40 := plays_len_le hO
 have g40 : ¬ (40 : Int) < ((playsB s.e s.sc s.rl).length : Int) := by omega
 have n00 : ((0 : Int) != 0) = false := rfl
 by_cases hw0 : w < 0
 ·repeat (with_reducible (first | apply nx | apply wQ rfl | ((first | apply wV | apply wW | apply wX | (apply wy (cfV1_ok hk); (focus kernel_rfl))); (focus (simp only [Tryz.f7, cfV1, cfT1, cfLc, cfLb, cfLa, c19, c20, c21, c23, c30, hd, hdg, hcg, hl', h0, hst, h1, h2, hP, g40, n00, hw0, gt_iff_lt, List.length_map, go_sem]; rfl))) | refine wz (cfV1_ok hk) ?_ | (refine wa ?_; refine And.intro ?_ ?_; (focus kernel_rfl))))
  exact ⟨rfl, rfl, _, rfl, rfl⟩
 by_cases hwl : ((playsB s.e s.sc s.rl).length : Int) ≤ w
 ·repeat (with_reducible (first | apply nx | apply wQ rfl | ((first | apply wV | apply wW | apply wX | (apply wy (cfV1_ok hk); (focus kernel_rfl))); (focus (simp only [Tryz.f7, cfV1, cfT1, cfLc, cfLb, cfLa, c19, c20, c21, c23, c30, hd, hdg, hcg, hl', h0, hst, h1, h2, hP, g40, n00, hw0, hwl, gt_iff_lt, ge_iff_le, List.length_map, go_sem]; rfl))) | refine wz (cfV1_ok hk) ?_ | (refine wa ?_; refine And.intro ?_ ?_; (focus kernel_rfl))))
  exact ⟨rfl, rfl, _, rfl, rfl⟩
 obtain ⟨m, rfl⟩ : ∃ m : Nat, w = (m : Int) := ⟨w.toNat, by omega⟩
 obtain ⟨p, hp⟩ : ∃ p, (playsB s.e s.sc s.rl)[m]? = some p := ⟨_, List.getElem?_eq_getElem (by omega)⟩
 have hpm := List.mem_of_getElem? hp
 have hp' : ((playsB s.e s.sc s.rl).map slx)[m]? = some (.sl .a (p.map ii)) := map_get hp
 have hml : (m : Int) < ((playsB s.e s.sc s.rl).length : Int) := by omega
 have hpf := hO.plays_fine p hpm
 have hap := are_play hst hpm
 have hdp : decIs1 (.sl .a (p.map ii)) = some p := decIs1_enc rfl
 have hcp := closedL_is p
 have hpl : p.length ≤ 100000 := by omega
 have hpmx : p.length ≤ maxLen := by unfold maxLen; omega
 have hPd := decSls_pls (playsB s.e s.sc s.rl)
 have hPc := closedL_slx (playsB s.e s.sc s.rl)
 have hPa := plays_all hst maxLen (by unfold maxLen; omega)
 have hPl : (playsB s.e s.sc s.rl).length ≤ 100000 := by omega
 have hnd := rise_nodup (plays_rise ((ders s.e s.sc s.rl).map (·.2)))
 have hnd : (playsB s.e s.sc s.rl).Nodup := hnd
 have hzn := plZ_n (l := playsB s.e s.sc s.rl)
 have hzz : plZ (playsB s.e s.sc s.rl) ≠ .n := fun e => by rw [hzn e] at hp; cases hp
 have hfo : ∀ i (x : Int), p[i]? = some x → ∃ zF : Z, followsR s (p.take i) = .tuple [.sl zF ((follB s.sc.length (playsB s.e s.sc s.rl) (p.take i)).map ii), ii 0] ∧ decIs1 (.sl zF ((follB s.sc.length (playsB s.e s.sc s.rl) (p.take i)).map ii)) = some (follB s.sc.length (playsB s.e s.sc s.rl) (p.take i)) ∧ decide (x ∈ follB s.sc.length (playsB s.e s.sc s.rl) (p.take i)) = true ∧ (follB s.sc.length (playsB s.e s.sc s.rl) (p.take i)).length ≤ s.sc.length := fun i x hx => by
  have hi := (List.getElem?_eq_some_iff.1 hx).1
  have ha : areB s.sc.length (p.take i) 0 = true := areB_of (by rw [List.length_take]; omega) fun y hy => by
   have := hpf.2.2 y (List.mem_of_mem_take hy)
   omega
  refine ⟨_, ?_, decIs1_enc (zOk_of fun e => isZ_n e), ?_, foll_len _ _ _⟩
  ·unfold followsR; rw [hst, ha]; rfl
  ·have hx0 := hpf.2.2 x (List.mem_of_getElem? hx)
   refine decide_eq_true (foll_mem.2 ⟨⟨hx0.1, hx0.2⟩, nexts_mem.2 ⟨p, hpm, ?_, ?_, ?_⟩⟩)
   ·rw [List.length_take]; omega
   ·rw [List.length_take, Nat.min_eq_left (by omega)]
   ·rw [List.length_take, Nat.min_eq_left (by omega)]; exact hx
 have hfl := forg_len p g
 have haf : areB s.sc.length (forgG p g) (-1) = true := areB_of (by rw [hfl]; omega) fun x hx => by
  rcases forg_mem hx with rfl | h
  ·have := hO.s8; omega
  ·have := hpf.2.2 x h; omega
 have hA : agreesR s (forgG p g) = .tuple [.sl (plZ (agreesB (playsB s.e s.sc s.rl) (forgG p g))) ((agreesB (playsB s.e s.sc s.rl) (forgG p g)).map slx), ii 0] := by unfold agreesR; rw [hst, haf]; rfl
 have hAd := decSls_pls (agreesB (playsB s.e s.sc s.rl) (forgG p g))
 have hAc := closedL_slx (agreesB (playsB s.e s.sc s.rl) (forgG p g))
 have hAa : ((agreesB (playsB s.e s.sc s.rl) (forgG p g)).all fun q => decide (q.length ≤ maxLen)) = true := List.all_eq_true.2 fun q hq => decide_eq_true (by have := hO.plays_fine q (List.mem_filter.1 hq).1; unfold maxLen; omega)
 have hAl := agrees_len (playsB s.e s.sc s.rl) (forgG p g)
 have hAm : ∀ q ∈ agreesB (playsB s.e s.sc s.rl) (forgG p g), decide (q ∈ playsB s.e s.sc s.rl) = true ∧ agrB q (forgG p g) = true ∧ q.length ≤ 100000 := fun q hq => by
  have h := List.mem_filter.1 hq
  have := hO.plays_fine q h.1
  exact ⟨decide_eq_true h.1, h.2, by omega⟩
 have hAp : decide (p ∈ agreesB (playsB s.e s.sc s.rl) (forgG p g)) = true := decide_eq_true (List.mem_filter.2 ⟨hpm, forg_agr p g⟩)
 have hA1 : forgG p g = p → (agreesB (playsB s.e s.sc s.rl) (forgG p g)).length = 1 := fun e => by
  rw [e, agrees_one hnd hpm fun x hx => (hpf.2.2 x hx).1]; rfl
 have hAzn := plZ_n (l := agreesB (playsB s.e s.sc s.rl) (forgG p g))
 have hset := forg_set p g
 have hdf : decIs1 (.sl .a ((forgG p g).map ii)) = some (forgG p g) := decIs1_enc rfl
 have hcf := closedL_is (forgG p g)
 have hfm : (forgG p g).length ≤ maxLen := by rw [hfl]; exact hpmx
 clear haf
 generalize agreesB (playsB s.e s.sc s.rl) (forgG p g) = A at *
 generalize playsB s.e s.sc s.rl = P at *
 have hte : (p.map ii).isEmpty = false := by
  cases p with
  | nil => simp at hpf
  | cons x t => rfl
 have q1 : p.length * 8 ≤ 140737488355328 := by omega
 repeat (with_reducible (first | ((fail_if_success (refine RunQ.seq (x := .region 12 _ _) ?_)); (apply nx)) | apply wQ rfl | ((first | apply wV | apply wW | apply wX | (apply wy (cfV1_ok hk); (focus kernel_rfl))); (focus (simp only [Tryz.f7, cfV1, cfT1, cfLc, cfLb, cfLa, c19, c20, c21, c23, c30, c34, hd, hdg, hcg, hl', h0, hst, h1, h2, hP, g40, n00, hw0, hwl, hp', hml, hzz, hap, hdp, hcp, hpl, k2, hte, q1, hpmx, all_mi, all_t, gt_iff_lt, ge_iff_le, List.length_map, go_sem]; rfl))) | ((fail_if_success (show RunQ _ (.region 12 _ _) _ _)); (refine wz (cfV1_ok hk) ?_)) | (refine wa ?_; refine And.intro ?_ ?_; (focus kernel_rfl))))
 refine RunQ.keep [10, 9, 7, 3, 2] (by simp only [go_sem]; rfl) ?_
 obtain ⟨S, hS⟩ : ∃ S : Nat → List Int, S = fun i => forgG (p.take i) g ++ p.drop i := ⟨_, rfl⟩
 have hS0 : S 0 = p := by rw [hS]; cases g <;> rfl
 have hSn : S p.length = forgG p g := by
  rw [hS]
  show forgG (p.take p.length) g ++ p.drop p.length = _
  rw [List.take_length, List.drop_length, List.append_nil]
 have hSl : ∀ i, i ≤ p.length → (S i).length = p.length := fun i hi => by
  rw [hS]
  show (forgG (p.take i) g ++ p.drop i).length = _
  rw [List.length_append, forg_len, List.length_take, List.length_drop]
  omega
 have hSs : ∀ i, i < p.length → S (i + 1) = if (∃ x, g[i]? = some x ∧ 0 < x) then (S i).set i (-1) else S i := fun i hi => by
  rw [hS]
  exact hset i hi
 clear hset hS
 repeat (with_reducible (first | apply nx | apply wQ rfl | ((first | apply wV | apply wW | apply wX | (apply wy cf0_ok; (focus kernel_rfl))); (focus (simp only [Tryz.f7, go_sem]; rfl))) | refine wz cf0_ok ?_ | (refine wa ?_; refine And.intro ?_ ?_; (focus kernel_rfl))))
 refine RunQ.keep [11, 10, 9, 7, 3, 2] (by simp only [go_sem]; rfl) ?_
 refine RunQ.loop (fun i s' => s' = ⟨[(11, ii (i : Nat)), (10, .ms 1 p.length), (9, .sl .a (p.map ii)), (7, .sl (plZ P) (P.map slx)), (3, .bp 0 0), (2, .sl z (g.map ii))], 164, [.var s.cells false, .row false 3 1 ((S i).map ii) false]⟩) p.length (by rw [hS0]; simp only [go_sem]) ?_
 rintro i _ hi rfl
 by_cases hlt : i < p.length
 ·obtain ⟨x, hx⟩ : ∃ x, p[i]? = some x := ⟨_, List.getElem?_eq_getElem hlt⟩
  have hx' : (p.map ii)[i]? = some (ii x) := map_get hx
  obtain ⟨zF, hF, hdF, hxF, hkF⟩ := hfo i x hx
  have hcF := closedL_is (follB s.sc.length P (p.take i))
  have hlF : (follB s.sc.length P (p.take i)).length ≤ 100000 := by omega
  have hgF : ¬ (s.sc.length : Int) < ((follB s.sc.length P (p.take i)).length : Int) := by omega
  have hlt' : (i : Int) < p.length := by omega
  have hsl := hSl i hi
  have hss := hSs i hlt
  generalize S i = T at hsl hss ⊢
  have e4 : IntKind.i64.wrap ((i : Int) + 1) = ((i + 1 : Nat) : Int) := wrap_id (by omega) (by omega)
  have r0 : (0 : Int) ≤ (i : Nat) := by omega
  have r1 : ((i : Nat) : Int) ≤ (p.length : Int) := by omega
  have ht1 : List.take i (p.map ii) = (p.take i).map ii := List.map_take.symm
  have hdt : decIs1 (.sl .a ((p.take i).map ii)) = some (p.take i) := decIs1_enc rfl
  have hct := closedL_is (p.take i)
  by_cases hgi : ∃ y, g[i]? = some y ∧ 0 < y
  ·rw [if_pos hgi] at hss
   obtain ⟨y, hy, hy0⟩ := hgi
   have hy' : (g.map ii)[i]? = some (ii y) := map_get hy
   have hgl := (List.getElem?_eq_some_iff.1 hy).1
   have hgl' : (i : Int) < g.length := by omega
   have hzg : z ≠ .n := fun e => by
    rw [e] at hz
    have : g = [] := by simpa [zOk] using hz
    rw [this] at hy; cases hy
   have hms : (T.set i (-1)).map ii = (T.map ii).set i (PV.int .i64 (-1)) := List.map_set
   have hl2 : ltBL 2 ((T.map ii).set i (PV.int .i64 (-1))) = true := by rw [← hms]; exact ltB_is 2 _
   have hiT : i < T.length := by omega
   obtain ⟨t0, ht0⟩ : ∃ t0, T[i]? = some t0 := ⟨_, List.getElem?_eq_getElem hiT⟩
   have hTi : (T.map ii)[i]? = some (ii t0) := map_get ht0
   repeat (with_reducible (first | apply nx | apply wQ rfl | ((first | apply wV | apply wW | apply wX | (apply wy (cfV1_ok hk); (focus kernel_rfl))); (focus (simp only [Tryz.f7, cfV1, cfT1, c37, chas, hd, hst, h1, h2, hlt', hx', r0, r1, ht1, all_mi, all_t, hdt, hct, hF, hdF, hcF, hlF, hgF, hxF, n00, hgl', hzg, hy', hy0, e4, hsl, hlt, hiT, hTi, setElem, gt_iff_lt, List.length_map, go_sem]; rfl))) | refine wz (cfV1_ok hk) ?_ | (refine wa ?_; refine And.intro ?_ ?_; (focus kernel_rfl))))
   refine roundQ.t 2 [11, 10, 9, 7, 3, 2] hlt (by simp only [ltB_sns, ltB_rzs, ltB_is, ltB_sl, ltBL_slx, hl2, go_sem]) (by rw [hss, hms]; simp only [go_sem])
  ·rw [if_neg hgi] at hss
   by_cases hgl : i < g.length
   ·obtain ⟨y, hy⟩ : ∃ y, g[i]? = some y := ⟨_, List.getElem?_eq_getElem hgl⟩
    have hy0 : ¬ 0 < y := fun h => hgi ⟨y, hy, h⟩
    have hy' : (g.map ii)[i]? = some (ii y) := map_get hy
    have hgl' : (i : Int) < g.length := by omega
    have hzg : z ≠ .n := fun e => by
     rw [e] at hz
     have : g = [] := by simpa [zOk] using hz
     rw [this] at hy; cases hy
    repeat (with_reducible (first | apply nx | apply wQ rfl | ((first | apply wV | apply wW | apply wX | (apply wy (cfV1_ok hk); (focus kernel_rfl))); (focus (simp only [Tryz.f7, cfV1, cfT1, c37, chas, hd, hst, h1, h2, hlt', hx', r0, r1, ht1, all_mi, all_t, hdt, hct, hF, hdF, hcF, hlF, hgF, hxF, n00, hgl', hzg, hy', hy0, e4, hsl, gt_iff_lt, List.length_map, go_sem]; rfl))) | refine wz (cfV1_ok hk) ?_ | (refine wa ?_; refine And.intro ?_ ?_; (focus kernel_rfl))))
    refine roundQ.t 2 [11, 10, 9, 7, 3, 2] hlt (by simp only [ltB_sns, ltB_rzs, ltB_is, ltB_sl, ltBL_slx, go_sem]) (by rw [hss]; simp only [go_sem])
   ·have hgl' : ¬ (i : Int) < g.length := by omega
    repeat (with_reducible (first | apply nx | apply wQ rfl | ((first | apply wV | apply wW | apply wX | (apply wy (cfV1_ok hk); (focus kernel_rfl))); (focus (simp only [Tryz.f7, cfV1, cfT1, c37, chas, hd, hst, h1, h2, hlt', hx', r0, r1, ht1, all_mi, all_t, hdt, hct, hF, hdF, hcF, hlF, hgF, hxF, n00, hgl', e4, hsl, gt_iff_lt, List.length_map, go_sem]; rfl))) | refine wz (cfV1_ok hk) ?_ | (refine wa ?_; refine And.intro ?_ ?_; (focus kernel_rfl))))
    refine roundQ.t 2 [11, 10, 9, 7, 3, 2] hlt (by simp only [ltB_sns, ltB_rzs, ltB_is, ltB_sl, ltBL_slx, go_sem]) (by rw [hss]; simp only [go_sem])
 have hlt' : ¬ (i : Int) < p.length := by omega
 obtain rfl : i = p.length := by omega
 rw [hSn]
 repeat (with_reducible (first | ((fail_if_success (refine RunQ.seq (x := .region 20 _ _) ?_)); (apply nx)) | apply wQ rfl | ((first | apply wV | apply wW | apply wX | (apply wy cf0_ok; (focus kernel_rfl))); (focus (simp only [Tryz.f7, hlt', hfl, List.length_map, go_sem]; rfl))) | ((fail_if_success (show RunQ _ (.region 20 _ _) _ _)); (refine wz cf0_ok ?_)) | (refine wa ?_; refine And.intro ?_ ?_; (focus kernel_rfl))))
 refine RunQ.keep [10, 9, 7, 3] (by simp only [go_sem]; rfl) ?_
 refine RunQ.freezeZ (tm' := [(10, .sl .a ((forgG p g).map ii)), (9, .sl .a (p.map ii)), (7, .sl (plZ P) (P.map slx)), (3, .bp 0 0)]) (sg' := [.var s.cells false, .row false 3 1 ((forgG p g).map ii) true]) 10 1 rfl rfl (by rw [List.length_map, hfl]) hcf rfl rfl ?_
 have gA : ¬ (P.length : Int) < (A.length : Int) := by omega
 have hAl5 : A.length ≤ 100000 := by omega
 generalize forgG p g = f at *
 repeat (with_reducible (first | apply nx | apply wQ rfl | ((first | apply wV | apply wW | apply wX | (apply wy (cfV1_ok hk); (focus kernel_rfl))); (focus (simp only [Tryz.f7, cfV1, cfT1, c27, c38, hd, hst, h1, h2, hdf, hcf, hA, n00, gA, hAd, hAc, hAa, hAl5, hAp, hdp, hcp, gt_iff_lt, List.length_map, go_sem]; rfl))) | refine wz (cfV1_ok hk) ?_ | (refine wa ?_; refine And.intro ?_ ?_; (focus kernel_rfl))))
 refine RunQ.keep [16, 14, 10, 9, 7] (by simp only [go_sem]; rfl) ?_
 refine RunQ.loop (fun i s' => s' = ⟨[(16, ii (i : Nat)), (14, .sl (plZ A) (A.map slx)), (10, .sl .a (f.map ii)), (9, .sl .a (p.map ii)), (7, .sl (plZ P) (P.map slx))], 164, [.var s.cells false, .row false 3 1 (f.map ii) true]⟩) A.length (by simp only [go_sem]) ?_
 rintro i _ hi rfl
 by_cases hlt : i < A.length
 ·obtain ⟨x, hx⟩ : ∃ x, A[i]? = some x := ⟨_, List.getElem?_eq_getElem hlt⟩
  have hx' : (A.map slx)[i]? = some (.sl .a (x.map ii)) := map_get hx
  have hlt' : (i : Int) < A.length := by omega
  have hza : plZ A ≠ .n := fun e => by rw [hAzn e] at hx; cases hx
  obtain ⟨x1, x2, x3⟩ := hAm x (List.mem_of_getElem? hx)
  have hdx : decIs1 (.sl .a (x.map ii)) = some x := decIs1_enc rfl
  have hcx := closedL_is x
  have e4 : IntKind.i64.wrap ((i : Int) + 1) = ((i + 1 : Nat) : Int) := wrap_id (by omega) (by omega)
  repeat (with_reducible (first | apply nx | apply wQ rfl | ((first | apply wV | apply wW | apply wX | (apply wy (cfV1_ok hk); (focus kernel_rfl))); (focus (simp only [Tryz.f7, cfV1, cfT1, c27, c43, hx', hlt', hza, x1, x2, x3, hdx, hcx, hdf, hcf, hPd, hPc, hPa, hPl, e4, List.length_map, go_sem]; rfl))) | refine wz (cfV1_ok hk) ?_ | (refine wa ?_; refine And.intro ?_ ?_; (focus kernel_rfl))))
  refine roundQ.t 2 [16, 14, 10, 9, 7] hlt (by simp only [ltB_sns, ltB_rzs, ltB_is, ltB_sl, ltBL_slx, go_sem]) (by simp only [go_sem])
 ·have hlt' : ¬ (i : Int) < A.length := by omega
  by_cases hfp : f = p
  ·have hde : decide (f = p) = true := decide_eq_true hfp
   have hb1 : ((A.length : Int) == 1) = true := by rw [hA1 hfp]; rfl
   repeat (with_reducible (first | apply nx | apply wQ rfl | ((first | apply wV | apply wW | apply wX | (apply wy (cfV1_ok hk); (focus kernel_rfl))); (focus (simp only [Tryz.f7, cfV1, cfT1, cfLc, cfLb, cfLa, c21, c29s, hlt', hdf, hcf, hdp, hcp, hfm, hde, hb1, List.length_map, go_sem]; rfl))) | refine wz (cfV1_ok hk) ?_ | (refine wa ?_; refine And.intro ?_ ?_; (focus kernel_rfl))))
   exact ⟨rfl, rfl, _, rfl, rfl⟩
  ·have hde : decide (f = p) = false := decide_eq_false hfp
   repeat (with_reducible (first | apply nx | apply wQ rfl | ((first | apply wV | apply wW | apply wX | (apply wy (cfV1_ok hk); (focus kernel_rfl))); (focus (simp only [Tryz.f7, cfV1, cfT1, cfLc, cfLb, cfLa, c21, c29s, hlt', hdf, hcf, hdp, hcp, hfm, hde, List.length_map, go_sem]; rfl))) | refine wz (cfV1_ok hk) ?_ | (refine wa ?_; refine And.intro ?_ ?_; (focus kernel_rfl))))
   exact ⟨rfl, rfl, _, rfl, rfl⟩
end Go.Pv
