/- Contracts: Plays, Rules, Words, the reference's. -/
import Derived.Test.YtkjalecddameoaaGreatDoorQiSame
set_option linter.all false
namespace Go.Pv
open Go Go.RowKit Go.Proofs
set_option maxRecDepth 200000
set_option maxHeartbeats 8000000
theorem foldl_take {α β : Type} (f : β → α → β) (b : β) {l : List α} {i : Nat} {x : α} (h : l[i]? = some x) : (l.take (i + 1)).foldl f b = f ((l.take i).foldl f b) x := by
 rw [List.take_add_one, h, List.foldl_append]; rfl
def BI (D : List (List Nat × List Int)) (i : Nat) : Option (List Int) → Int → Prop
 | none, b => b = -1
 | some y, b => ∃ (j : Nat) (d : List Nat × List Int), b = (j : Nat) ∧ j < i ∧ D[j]? = some d ∧ d.2 = y
def betO (o : Option (List Int)) (x : List Int) : Bool := match o with
 | none => true
 | some y => sooner x y
theorem betterF_eq (last o : Option (List Int)) (x : List Int) : betterF last o x = if (behind last x && betO o x) = true then some x else o := rfl
theorem RPlays_31 (s : Sty) (hok : s.ok = true) (hst : s.story = true) : CallOk Tryz.prog 31 [.agg s.cells] [] (.ret (plsV (playsB s.e s.sc s.rl))) [] := by
 refine CallOk.ofF hTT Tryz.func31 rfl rfl ?_
 have hS := Sty.story_ok hst
 have hd := decSt_cells s hok
 have h1 := closedL_sns s.sc
 have h2 := closedL_rzs s.rz
 have h5 := closedL_dds (ders s.e s.sc s.rl)
 have h40 := ders_len hS
 have hpl := ders_play hS
 unfold playsB
 repeat (with_reducible (first | apply nx | apply wQ rfl | ((first | apply wV | apply wW | apply wX | (apply wy cfF2_ok; (focus kernel_rfl))); (focus (simp only [Tryz.f31, cfF2, c93, ofV_def, hd, hst, h1, h2, h5, go_sem]; rfl))) | refine wz cfF2_ok ?_ | (refine wa ?_; refine And.intro ?_ ?_; (focus kernel_rfl))))
 generalize ders s.e s.sc s.rl = D at *
 have hzn := ofZ_n (L := D)
 generalize ofZ D = zz at hzn ⊢
 obtain ⟨E, hE⟩ : ∃ E, E = D.map (·.2) := ⟨_, rfl⟩
 have hEl : E.length = D.length := by rw [hE, List.length_map]
 have hPn := next_play E
 have hPl := plays_len E
 have hPm := fun x (hx : x ∈ playsL E) => (plays_mem E x).1 hx
 rw [← hE]
 generalize playsL E = P at *
 have hP10 : ∀ x ∈ P, x.length ≤ 10 := fun x hx => by
  have := hPm x hx
  rw [hE] at this
  obtain ⟨d, hd, rfl⟩ := List.mem_map.1 this
  exact (hpl d hd).1
 refine RunQ.keep [4, 3, 1] (by simp only [go_sem]; rfl) ?_
 refine RunQ.nilRow 4 26 1 (by simp only [go_sem]) (by simp only [go_sem]; rfl) (by simp only [go_sem]; rfl) ?_
 refine RunQ.loop (fun k s' => k ≤ P.length ∧ s' = ⟨[(4, .ms 1 k), (3, .sl zz (D.map ddV)), (1, .bp 0 0)], 67, [.var s.cells false, .row (decide (k = 0)) 26 1 ((P.take k).map slx) false]⟩) P.length ⟨Nat.zero_le _, by simp only [go_sem]⟩ ?_
 rintro k _ hk ⟨_, rfl⟩
 have htl : (P.take k).length = k := by rw [List.length_take]; omega
 have fin : k = P.length → leaveC0 0 (.ms 1 k) [.var s.cells false, .row (decide (k = 0)) 26 1 ((P.take k).map slx) false] = (plsV P, []) := fun e => by
  subst e
  rw [List.take_length]
  exact leave_row (id := 1) rfl (closedL_slx _) (by rw [List.length_map])
 by_cases hkD : k < D.length
 ·have hkD' : (k : Int) < D.length := by omega
  have hzd := hzn (fun e => by rw [e] at hkD; simp at hkD)
  repeat (with_reducible (first | apply nx | apply wQ rfl | ((first | apply wV | apply wW | apply wX | (apply wy cf0_ok; (focus kernel_rfl))); (focus (simp only [Tryz.f31, hkD', htl, List.length_map, go_sem]; rfl))) | refine wz cf0_ok ?_ | (refine wa ?_; refine And.intro ?_ ?_; (focus kernel_rfl))))
  refine RunQ.keep [6, 5, 4, 3, 1] (by simp only [go_sem]; rfl) ?_
  obtain ⟨last, hlast⟩ : ∃ last, last = (P.take k).getLast? := ⟨_, rfl⟩
  have hnx := hPn k
  rw [← hlast, if_pos hk] at hnx
  refine RunQ.loop (fun i s' => ∃ b : Int, BI D i ((E.take i).foldl (betterF last) none) b ∧ s' = ⟨[(6, ii (i : Nat)), (5, ii b), (4, .ms 1 k), (3, .sl zz (D.map ddV)), (1, .bp 0 0)], 67, [.var s.cells false, .row (decide (k = 0)) 26 1 ((P.take k).map slx) false]⟩) D.length ⟨-1, rfl, by simp only [go_sem]⟩ ?_
  rintro i _ hi ⟨b, hb, rfl⟩
  by_cases hlt : i < D.length
  ·obtain ⟨d, hdi⟩ : ∃ d, D[i]? = some d := ⟨_, List.getElem?_eq_getElem hlt⟩
   have hd' : (D.map ddV)[i]? = some (.agg [.sl .a ((intsN d.1).map ii), .sl .a (d.2.map ii)]) := map_get hdi
   have hEi : E[i]? = some d.2 := by rw [hE]; exact map_get hdi
   have hlt' : (i : Int) < D.length := by omega
   have e4 : IntKind.i64.wrap ((i : Int) + 1) = ((i + 1 : Nat) : Int) := wrap_id (by omega) (by omega)
   have hdd : decIs1 (.sl .a (d.2.map ii)) = some d.2 := decIs1_enc rfl
   have hcd := closedL_is d.2
   have hdl := (hpl d (List.mem_of_getElem? hdi)).1
   have hdm : d.2.length ≤ 100000 := by omega
   have hft := foldl_take (betterF last) none hEi
   have hmono : ∀ o b, BI D i o b → BI D (i + 1) o b := fun o b h => by
    cases o with
    | none => exact h
    | some y => obtain ⟨j, d, a1, a2, a3⟩ := h; exact ⟨j, d, a1, by omega, a3⟩
   generalize (E.take i).foldl (betterF last) none = o at hb hft
   have hk0 : (k = 0 ∧ ((k : Int) == 0) = true ∧ behind last d.2 = true) ∨ (∃ y0 : List Int, ((k : Int) == 0) = false ∧ IntKind.i64.wrap ((k : Int) - 1) = ((k - 1 : Nat) : Int) ∧ ((P.take k).map slx)[k - 1]? = some (.sl .a (y0.map ii)) ∧ decIs1 (.sl .a (y0.map ii)) = some y0 ∧ closedL (y0.map ii) = true ∧ y0.length ≤ 100000 ∧ behind last d.2 = sooner y0 d.2 ∧ ((k - 1 : Nat) : Int) < k ∧ decide (k = 0) = false) := by
    by_cases h0 : k = 0
    ·refine .inl ⟨h0, by rw [h0]; rfl, ?_⟩
     rw [hlast, h0, List.take_zero]; rfl
    ·refine .inr ?_
     obtain ⟨y0, hy0⟩ : ∃ y0, P[k - 1]? = some y0 := ⟨_, List.getElem?_eq_getElem (by omega)⟩
     have hg : (P.take k)[k - 1]? = some y0 := by rw [List.getElem?_take_of_lt (by omega)]; exact hy0
     have hyl := hP10 y0 (List.mem_of_getElem? hy0)
     refine ⟨y0, by rw [beq_eq_false_iff_ne]; omega, ?_, map_get hg, decIs1_enc rfl, closedL_is y0, by omega, ?_, by omega, decide_eq_false h0⟩
     ·rw [wrap_id (by omega) (by omega)]; omega
     ·rw [hlast, List.getLast?_eq_getElem?, htl, hg]; rfl
   have tail : ∀ (bh : Bool), behind last d.2 = bh → (bh = true → betO o d.2 = true → BI D (i + 1) (betterF last o d.2) i) ∧ ((bh = false ∨ betO o d.2 = false) → BI D (i + 1) (betterF last o d.2) b) := fun bh hbh => by
    rw [betterF_eq, hbh]
    refine ⟨fun h1 h2 => ?_, fun h => ?_⟩
    ·rw [h1, h2]
     exact ⟨i, d, rfl, by omega, hdi, rfl⟩
    ·have : (bh && betO o d.2) = false := by
      rcases h with h | h
      ·rw [h]; rfl
      ·rw [h]; exact Bool.and_false _
     rw [this]
     exact hmono _ _ hb
   rcases hk0 with ⟨hk0, k1, hbh⟩ | ⟨y0, k1, k2, k3, k4, k5, k6, hbh, k7, k8⟩
   ·obtain ⟨t1, t2⟩ := tail true hbh
    cases o with
    | none =>
     obtain rfl : b = -1 := hb
     repeat (with_reducible (first | apply nx | apply wQ rfl | ((first | apply wV | apply wW | apply wX | (apply wy cfF2_ok; (focus kernel_rfl))); (focus (simp only [Tryz.f31, cfF2, hd', hlt', hzd, k1, e4, htl, List.length_map, go_sem]; rfl))) | refine wz cfF2_ok ?_ | (refine wa ?_; refine And.intro ?_ ?_; (focus kernel_rfl))))
     refine roundQ.t 2 [6, 5, 4, 3, 1] hlt (by simp only [ltB_sns, ltB_rzs, ltB_sl, ltBL_slx, ltBL_dds, go_sem]) ⟨_, by rw [hft]; exact (t1 rfl rfl), by simp only [go_sem]⟩
    | some y =>
     obtain ⟨j, dj, rfl, hji, hdj, rfl⟩ := hb
     have hdj' : (D.map ddV)[j]? = some (.agg [.sl .a ((intsN dj.1).map ii), .sl .a (dj.2.map ii)]) := map_get hdj
     have hj' : (j : Int) < D.length := by omega
     have hjn : ¬ ((j : Nat) : Int) < 0 := by omega
     have hj0 : (0 : Int) ≤ (j : Nat) := by omega
     have hddj : decIs1 (.sl .a (dj.2.map ii)) = some dj.2 := decIs1_enc rfl
     have hcj := closedL_is dj.2
     cases hso : sooner d.2 dj.2
     ·repeat (with_reducible (first | apply nx | apply wQ rfl | ((first | apply wV | apply wW | apply wX | (apply wy cfF2_ok; (focus kernel_rfl))); (focus (simp only [Tryz.f31, cfF2, c28, hd', hdj', hj', hjn, hj0, hddj, hcj, hlt', hzd, hdd, hcd, hdm, k1, hso, e4, htl, List.length_map, go_sem]; rfl))) | refine wz cfF2_ok ?_ | (refine wa ?_; refine And.intro ?_ ?_; (focus kernel_rfl))))
      refine roundQ.t 2 [6, 5, 4, 3, 1] hlt (by simp only [ltB_sns, ltB_rzs, ltB_sl, ltBL_slx, ltBL_dds, go_sem]) ⟨_, by rw [hft]; exact (t2 (.inr hso)), by simp only [go_sem]⟩
     ·repeat (with_reducible (first | apply nx | apply wQ rfl | ((first | apply wV | apply wW | apply wX | (apply wy cfF2_ok; (focus kernel_rfl))); (focus (simp only [Tryz.f31, cfF2, c28, hd', hdj', hj', hjn, hj0, hddj, hcj, hlt', hzd, hdd, hcd, hdm, k1, hso, e4, htl, List.length_map, go_sem]; rfl))) | refine wz cfF2_ok ?_ | (refine wa ?_; refine And.intro ?_ ?_; (focus kernel_rfl))))
      refine roundQ.t 2 [6, 5, 4, 3, 1] hlt (by simp only [ltB_sns, ltB_rzs, ltB_sl, ltBL_slx, ltBL_dds, go_sem]) ⟨_, by rw [hft]; exact (t1 rfl hso), by simp only [go_sem]⟩
   ·cases hs0 : sooner y0 d.2
    ·rw [hs0] at hbh
     obtain ⟨t1, t2⟩ := tail false hbh
     repeat (with_reducible (first | apply nx | apply wQ rfl | ((first | apply wV | apply wW | apply wX | (apply wy cfF2_ok; (focus kernel_rfl))); (focus (simp only [Tryz.f31, cfF2, c28, hd', hlt', hzd, hdd, hcd, hdm, k1, k2, k3, k4, k5, k6, k7, k8, hs0, e4, htl, List.length_map, go_sem]; rfl))) | refine wz cfF2_ok ?_ | (refine wa ?_; refine And.intro ?_ ?_; (focus kernel_rfl))))
     refine roundQ.t 2 [6, 5, 4, 3, 1] hlt (by simp only [ltB_sns, ltB_rzs, ltB_sl, ltBL_slx, ltBL_dds, go_sem]) ⟨_, by rw [hft]; exact (t2 (.inl rfl)), by simp only [k8, go_sem]⟩
    ·rw [hs0] at hbh
     obtain ⟨t1, t2⟩ := tail true hbh
     cases o with
     | none =>
      obtain rfl : b = -1 := hb
      repeat (with_reducible (first | apply nx | apply wQ rfl | ((first | apply wV | apply wW | apply wX | (apply wy cfF2_ok; (focus kernel_rfl))); (focus (simp only [Tryz.f31, cfF2, c28, hd', hlt', hzd, hdd, hcd, hdm, k1, k2, k3, k4, k5, k6, k7, k8, hs0, e4, htl, List.length_map, go_sem]; rfl))) | refine wz cfF2_ok ?_ | (refine wa ?_; refine And.intro ?_ ?_; (focus kernel_rfl))))
      refine roundQ.t 2 [6, 5, 4, 3, 1] hlt (by simp only [ltB_sns, ltB_rzs, ltB_sl, ltBL_slx, ltBL_dds, go_sem]) ⟨_, by rw [hft]; exact (t1 rfl rfl), by simp only [k8, go_sem]⟩
     | some y =>
      obtain ⟨j, dj, rfl, hji, hdj, rfl⟩ := hb
      have hdj' : (D.map ddV)[j]? = some (.agg [.sl .a ((intsN dj.1).map ii), .sl .a (dj.2.map ii)]) := map_get hdj
      have hj' : (j : Int) < D.length := by omega
      have hjn : ¬ ((j : Nat) : Int) < 0 := by omega
      have hj0 : (0 : Int) ≤ (j : Nat) := by omega
      have hddj : decIs1 (.sl .a (dj.2.map ii)) = some dj.2 := decIs1_enc rfl
      have hcj := closedL_is dj.2
      cases hso : sooner d.2 dj.2
      ·repeat (with_reducible (first | apply nx | apply wQ rfl | ((first | apply wV | apply wW | apply wX | (apply wy cfF2_ok; (focus kernel_rfl))); (focus (simp only [Tryz.f31, cfF2, c28, hd', hdj', hj', hjn, hj0, hddj, hcj, hlt', hzd, hdd, hcd, hdm, k1, k2, k3, k4, k5, k6, k7, k8, hs0, hso, e4, htl, List.length_map, go_sem]; rfl))) | refine wz cfF2_ok ?_ | (refine wa ?_; refine And.intro ?_ ?_; (focus kernel_rfl))))
       refine roundQ.t 2 [6, 5, 4, 3, 1] hlt (by simp only [ltB_sns, ltB_rzs, ltB_sl, ltBL_slx, ltBL_dds, go_sem]) ⟨_, by rw [hft]; exact (t2 (.inr hso)), by simp only [k8, go_sem]⟩
      ·repeat (with_reducible (first | apply nx | apply wQ rfl | ((first | apply wV | apply wW | apply wX | (apply wy cfF2_ok; (focus kernel_rfl))); (focus (simp only [Tryz.f31, cfF2, c28, hd', hdj', hj', hjn, hj0, hddj, hcj, hlt', hzd, hdd, hcd, hdm, k1, k2, k3, k4, k5, k6, k7, k8, hs0, hso, e4, htl, List.length_map, go_sem]; rfl))) | refine wz cfF2_ok ?_ | (refine wa ?_; refine And.intro ?_ ?_; (focus kernel_rfl))))
       refine roundQ.t 2 [6, 5, 4, 3, 1] hlt (by simp only [ltB_sns, ltB_rzs, ltB_sl, ltBL_slx, ltBL_dds, go_sem]) ⟨_, by rw [hft]; exact (t1 rfl hso), by simp only [k8, go_sem]⟩
  ·have hlt' : ¬ (i : Int) < D.length := by omega
   obtain rfl : i = D.length := by omega
   have hfull : (E.take D.length).foldl (betterF last) none = nextP last E := by rw [← hEl, List.take_length]; rfl
   rw [hfull, hnx] at hb
   cases hPk : P[k]? with
   | none =>
    rw [hPk] at hb
    obtain rfl : b = -1 := hb
    have hkP : k = P.length := by have := List.getElem?_eq_none_iff.1 hPk; omega
    repeat (with_reducible (first | apply nx | apply wQ rfl | ((first | apply wV | apply wW | apply wX | (apply wy cf0_ok; (focus kernel_rfl))); (focus (simp only [Tryz.f31, hlt', List.length_map, go_sem]; rfl))) | refine wz cf0_ok ?_ | (refine wa ?_; refine And.intro ?_ ?_; (focus kernel_rfl))))
    exact ⟨rfl, rfl, _, rfl, fin hkP⟩
   | some y =>
    rw [hPk] at hb
    obtain ⟨j, dj, rfl, hji, hdj, rfl⟩ := hb
    have hkP := (List.getElem?_eq_some_iff.1 hPk).1
    have hdj' : (D.map ddV)[j]? = some (.agg [.sl .a ((intsN dj.1).map ii), .sl .a (dj.2.map ii)]) := map_get hdj
    have hj' : (j : Int) < D.length := by omega
    have hjn : ¬ ((j : Nat) : Int) < 0 := by omega
    have hj0 : (0 : Int) ≤ (j : Nat) := by omega
    have q1 : (k + 1) * 24 ≤ 140737488355328 := by omega
    have q2 : k + 1 ≤ maxLen := by unfold maxLen; omega
    have htk : (P.take (k + 1)).map slx = (P.take k).map slx ++ [.sl .a (dj.2.map ii)] := by rw [List.take_add_one, hPk, List.map_append]; rfl
    have hd1 : decide (k + 1 = 0) = false := by simp
    have hl2 : ltBL 2 ((P.take k).map slx ++ [.sl .a (dj.2.map ii)]) = true := by rw [← htk]; exact ltBL_slx 2 _
    repeat (with_reducible (first | apply nx | apply wQ rfl | ((first | apply wV | apply wW | apply wX | (apply wy cf0_ok; (focus kernel_rfl))); (focus (simp only [Tryz.f31, hlt', hdj', hj', hjn, hj0, hzd, q1, q2, htl, List.length_map, go_sem]; rfl))) | refine wz cf0_ok ?_ | (refine wa ?_; refine And.intro ?_ ?_; (focus kernel_rfl))))
    refine roundQ.t 2 [4, 3, 1] hkP (by simp only [ltB_sns, ltB_rzs, ltB_sl, ltBL_dds, hl2, go_sem]) ⟨hkP, by rw [htk, hd1]; simp only [go_sem]⟩
 ·have hkD' : ¬ (k : Int) < D.length := by omega
  repeat (with_reducible (first | apply nx | apply wQ rfl | ((first | apply wV | apply wW | apply wX | (apply wy cf0_ok; (focus kernel_rfl))); (focus (simp only [Tryz.f31, hkD', htl, List.length_map, go_sem]; rfl))) | refine wz cf0_ok ?_ | (refine wa ?_; refine And.intro ?_ ?_; (focus kernel_rfl))))
  exact ⟨rfl, rfl, _, rfl, fin (by omega)⟩
def c31 : List PV → List Box → Option (PRes × List Box)
 | [v], sg => match decSt v with
  | some s => if s.story = true then some (.ret (plsV (playsB s.e s.sc s.rl)), sg) else none
  | none => none
 | _, _ => none
theorem c31_ok : ConOk Tryz.prog 31 c31 := ConOk.of0 (ent Tryz.func31 rfl) fun args sg r sg' h => by
 unfold c31 at h
 split at h <;> try (cases h; done)
 split at h <;> try (cases h; done)
 rename_i s h1
 split at h <;> cases h
 rename_i hst
 obtain ⟨rfl, hok⟩ := decSt_inv h1
 exact ⟨_, rfl, rfl, by rw [ltBL_cons, ltB_st]; rfl, RPlays_31 s hok hst⟩
end Go.Pv
namespace Go.Pv
open Go Go.RowKit Go.Proofs
set_option maxRecDepth 200000
set_option maxHeartbeats 8000000
def rrulesR (D : List (List Nat × List Int)) (p : List Int) : PV := match ofB D p with
 | [] => .tuple [.sl .n [], .bool false]
 | d :: _ => .tuple [.sl .a ((intsN d.1).map ii), .bool true]
theorem RRules_36 (s : Sty) (hok : s.ok = true) (hst : s.story = true) (z : Z) (p : List Int) (hz : zOk z (p.map ii) = true) (hp : p.length ≤ 100000) : CallOk Tryz.prog 36 [.agg s.cells, .sl z (p.map ii)] [] (.ret (rrulesR (ders s.e s.sc s.rl) p)) [] := by
 refine CallOk.ofF hTT Tryz.func36 rfl rfl ?_
 have hS := Sty.story_ok hst
 have hd := decSt_cells s hok
 have h1 := closedL_sns s.sc
 have h2 := closedL_rzs s.rz
 have hdp : decIs1 (.sl z (p.map ii)) = some p := decIs1_enc hz
 have hcp := closedL_is p
 have h5 := closedL_dds (ders s.e s.sc s.rl)
 have h40 := ders_len hS
 have hpl := ders_play hS
 repeat (with_reducible (first | apply nx | apply wQ rfl | ((first | apply wV | apply wW | apply wX | (apply wy cfF2_ok; (focus kernel_rfl))); (focus (simp only [Tryz.f36, cfF2, c93, ofV_def, hd, hst, h1, h2, h5, go_sem]; rfl))) | refine wz cfF2_ok ?_ | (refine wa ?_; refine And.intro ?_ ?_; (focus kernel_rfl))))
 generalize ders s.e s.sc s.rl = D at *
 have hzn := ofZ_n (L := D)
 generalize ofZ D = zz at hzn ⊢
 refine RunQ.keep [7, 6, 1] (by simp only [go_sem]; rfl) ?_
 refine RunQ.loop (fun i s' => ofB (D.take i) p = [] ∧ s' = ⟨[(7, ii (i : Nat)), (6, .sl zz (D.map ddV)), (1, .sl z (p.map ii))], 28, [.var s.cells false]⟩) D.length ⟨rfl, by simp only [go_sem]⟩ ?_
 rintro i _ hi ⟨hm, rfl⟩
 by_cases hlt : i < D.length
 ·obtain ⟨d, hdi⟩ : ∃ d, D[i]? = some d := ⟨_, List.getElem?_eq_getElem hlt⟩
  have hd' : (D.map ddV)[i]? = some (.agg [.sl .a ((intsN d.1).map ii), .sl .a (d.2.map ii)]) := map_get hdi
  have hlt' : (i : Int) < D.length := by omega
  have hzd := hzn (fun e => by rw [e] at hlt; simp at hlt)
  have e4 : IntKind.i64.wrap ((i : Int) + 1) = ((i + 1 : Nat) : Int) := wrap_id (by omega) (by omega)
  have hdd : decIs1 (.sl .a (d.2.map ii)) = some d.2 := decIs1_enc rfl
  have hcd := closedL_is d.2
  have hcd1 := closedL_is (intsN d.1)
  have hdl := (hpl d (List.mem_of_getElem? hdi)).1
  have hdm : d.2.length ≤ maxLen := by unfold maxLen; omega
  by_cases hdp2 : d.2 = p
  ·have hde : decide (d.2 = p) = true := decide_eq_true hdp2
   repeat (with_reducible (first | apply nx | apply wQ rfl | ((first | apply wV | apply wW | apply wX | (apply wy cfF2_ok; (focus kernel_rfl))); (focus (simp only [Tryz.f36, cfF2, c29s, hd', hlt', hzd, hdd, hdp, hcd, hcp, hdm, hde, e4, List.length_map, go_sem]; rfl))) | refine wz cfF2_ok ?_ | (refine wa ?_; refine And.intro ?_ ?_; (focus kernel_rfl))))
   have hof : ∃ l, ofB D p = d :: l := by
    have e1 : D = D.take i ++ d :: D.drop (i + 1) := by rw [← drop_get hdi, List.take_append_drop]
    have e2 : ofB D p = ofB (D.take i) p ++ ofB (d :: D.drop (i + 1)) p := by
     unfold ofB
     rw [← List.filter_append, ← e1]
    rw [e2, hm]
    refine ⟨ofB (D.drop (i + 1)) p, ?_⟩
    unfold ofB
    rw [List.filter_cons, if_pos hde]
    rfl
   obtain ⟨l, hl⟩ := hof
   refine ⟨rfl, rfl, _, rfl, ?_⟩
   unfold rrulesR
   rw [hl]
   have hv : (PV.tuple [.sl .a ((intsN d.1).map ii), .bool true]).closed = true := by simp [PV.closed, closedL, hcd1]
   exact leave_closed hv
  ·have hde : decide (d.2 = p) = false := decide_eq_false hdp2
   have hm2 : ofB (D.take (i + 1)) p = [] := by rw [ofB_take hdi, hm, if_neg hdp2]; rfl
   repeat (with_reducible (first | apply nx | apply wQ rfl | ((first | apply wV | apply wW | apply wX | (apply wy cfF2_ok; (focus kernel_rfl))); (focus (simp only [Tryz.f36, cfF2, c29s, hd', hlt', hzd, hdd, hdp, hcd, hcp, hdm, hde, e4, List.length_map, go_sem]; rfl))) | refine wz cfF2_ok ?_ | (refine wa ?_; refine And.intro ?_ ?_; (focus kernel_rfl))))
   refine roundQ.t 1 [7, 6, 1] hlt (by simp only [ltB_sns, ltB_rzs, ltB_is, ltB_sl, ltBL_dds, go_sem]) ⟨hm2, by simp only [go_sem]⟩
 ·have hlt' : ¬ (i : Int) < D.length := by omega
  obtain rfl : i = D.length := by omega
  rw [List.take_length] at hm
  repeat (with_reducible (first | apply nx | apply wQ rfl | ((first | apply wV | apply wW | apply wX | (apply wy cf0_ok; (focus kernel_rfl))); (focus (simp only [Tryz.f36, hlt', List.length_map, go_sem]; rfl))) | refine wz cf0_ok ?_ | (refine wa ?_; refine And.intro ?_ ?_; (focus kernel_rfl))))
  refine ⟨rfl, rfl, _, rfl, ?_⟩
  unfold rrulesR
  rw [hm]
  exact leave_closed rfl
def cfH1 : CallF := cfAdd cf0 94 chas
theorem cfH1_ok : CallFOk Tryz.prog cfH1 := cfAdd_ok cf0_ok chas94_ok
theorem RWords_33 (s : Sty) (hk0 : 1 ≤ s.sc.length) (hk : s.sc.length ≤ 1000) (z : Z) (ps : List (List Int)) (hz : z = .n → ps = []) (hne : ps ≠ []) (hps : ps.length ≤ 1000) (hp : ∀ p ∈ ps, p.length ≤ 1000) : CallOk Tryz.prog 33 [.agg s.cells, .sl z (ps.map slx)] [] (.ret (.sl .a ((wordsB s.sc.length ps).map ii))) [] := by
 refine CallOk.ofF hTT Tryz.func33 rfl rfl ?_
 have hcps := closedL_slx ps
 have hzn : z ≠ .n := fun e => hne (hz e)
 repeat (with_reducible (first | apply nx | apply wQ rfl | ((first | apply wV | apply wW | apply wX | (apply wy cf0_ok; (focus kernel_rfl))); (focus (simp only [Tryz.f33, go_sem]; rfl))) | refine wz cf0_ok ?_ | (refine wa ?_; refine And.intro ?_ ?_; (focus kernel_rfl))))
 refine RunQ.keep [6, 5, 2, 1] (by simp only [go_sem]; rfl) ?_
 refine RunQ.nilRow 5 44 1 (by simp only [go_sem]) (by simp only [go_sem]; rfl) (by simp only [go_sem]; rfl) ?_
 refine RunQ.loop (fun i s' => s' = ⟨[(6, ii (i : Nat)), (5, .ms 1 i), (2, .bp 0 0), (1, .sl z (ps.map slx))], 42, [.var s.cells false, .row (decide (i = 0)) 44 1 (((wordsB s.sc.length ps).take i).map ii) false]⟩) s.sc.length (by simp only [List.length_map, go_sem]) ?_
 rintro i _ hi rfl
 by_cases hlt : i < s.sc.length
 ·have hlt' : (i : Int) < s.sc.length := by omega
  have htl : ((wordsB s.sc.length ps).take i).length = i := by rw [List.length_take, words_len]; omega
  have hwt := words_take (ps := ps) hlt
  have e4 : IntKind.i64.wrap ((i : Int) + 1) = ((i + 1 : Nat) : Int) := wrap_id (by omega) (by omega)
  have q1 : (i + 1) * 8 ≤ 140737488355328 := by omega
  have q2 : i + 1 ≤ maxLen := by unfold maxLen; omega
  have hd1 : decide (i + 1 = 0) = false := by simp
  have hl2 : ∀ x, ltBL 2 (((wordsB s.sc.length ps).take i).map ii ++ [PV.int .i64 x]) = true := fun x => by
   have := ltB_is 2 ((wordsB s.sc.length ps).take i ++ [x])
   rw [List.map_append] at this
   exact this
  repeat (with_reducible (first | apply nx | apply wQ rfl | ((first | apply wV | apply wW | apply wX | (apply wy cf0_ok; (focus kernel_rfl))); (focus (simp only [Tryz.f33, hlt', List.length_map, go_sem]; rfl))) | refine wz cf0_ok ?_ | (refine wa ?_; refine And.intro ?_ ?_; (focus kernel_rfl))))
  refine RunQ.keep [8, 7, 6, 5, 2, 1] (by simp only [go_sem]; rfl) ?_
  refine RunQ.loop (fun j s' => s' = ⟨[(8, ii (j : Nat)), (7, ii (cntW (ps.take j) (i : Int) : Nat)), (6, ii (i : Nat)), (5, .ms 1 i), (2, .bp 0 0), (1, .sl z (ps.map slx))], 42, [.var s.cells false, .row (decide (i = 0)) 44 1 (((wordsB s.sc.length ps).take i).map ii) false]⟩) ps.length (by simp only [List.length_map, go_sem]; rfl) ?_
  rintro j _ hj rfl
  by_cases hjl : j < ps.length
  ·obtain ⟨q, hq⟩ : ∃ q, ps[j]? = some q := ⟨_, List.getElem?_eq_getElem hjl⟩
   have hq' : (ps.map slx)[j]? = some (.sl .a (q.map ii)) := map_get hq
   have hjl' : (j : Int) < ps.length := by omega
   have hql := hp q (List.mem_of_getElem? hq)
   have hqm : q.length ≤ 100000 := by omega
   have hqd : decIs1 (.sl .a (q.map ii)) = some q := decIs1_enc rfl
   have hqc := closedL_is q
   have hct := cnt_take (n := (i : Int)) hq
   have hcl := cnt_le (ps.take j) (i : Int)
   rw [List.length_take] at hcl
   have e5 : IntKind.i64.wrap ((j : Int) + 1) = ((j + 1 : Nat) : Int) := wrap_id (by omega) (by omega)
   have e6 : IntKind.i64.wrap ((cntW (ps.take j) (i : Int) : Int) + 1) = ((cntW (ps.take j) (i : Int) + 1 : Nat) : Int) := wrap_id (by omega) (by omega)
   by_cases hin : (i : Int) ∈ q
   ·rw [if_pos hin] at hct
    have hde : decide ((i : Int) ∈ q) = true := decide_eq_true hin
    repeat (with_reducible (first | apply nx | apply wQ rfl | ((first | apply wV | apply wW | apply wX | (apply wy cfH1_ok; (focus kernel_rfl))); (focus (simp only [Tryz.f33, cfH1, chas, hjl', hq', hqd, hqm, hqc, hde, hzn, e5, e6, List.length_map, go_sem]; rfl))) | refine wz cfH1_ok ?_ | (refine wa ?_; refine And.intro ?_ ?_; (focus kernel_rfl))))
    refine roundQ.t 2 [8, 7, 6, 5, 2, 1] hjl (by simp only [ltB_sns, ltB_rzs, ltB_is, ltB_sl, ltBL_slx, hl2, go_sem]) (by rw [hct]; simp only [go_sem])
   ·rw [if_neg hin, Nat.add_zero] at hct
    have hde : decide ((i : Int) ∈ q) = false := decide_eq_false hin
    repeat (with_reducible (first | apply nx | apply wQ rfl | ((first | apply wV | apply wW | apply wX | (apply wy cfH1_ok; (focus kernel_rfl))); (focus (simp only [Tryz.f33, cfH1, chas, hjl', hq', hqd, hqm, hqc, hde, hzn, e5, List.length_map, go_sem]; rfl))) | refine wz cfH1_ok ?_ | (refine wa ?_; refine And.intro ?_ ?_; (focus kernel_rfl))))
    refine roundQ.t 2 [8, 7, 6, 5, 2, 1] hjl (by simp only [ltB_sns, ltB_rzs, ltB_is, ltB_sl, ltBL_slx, hl2, go_sem]) (by rw [hct]; simp only [go_sem])
  ·have hjl' : ¬ (j : Int) < ps.length := by omega
   obtain rfl : j = ps.length := by omega
   rw [List.take_length]
   have hcl := cnt_le ps (i : Int)
   have hps0 : ps.length ≠ 0 := fun e => hne (List.length_eq_zero_iff.1 e)
   by_cases h0 : cntW ps (i : Int) = 0
   ·have b0 : ((cntW ps (i : Int) : Int) == 0) = true := by rw [h0]; rfl
    have b1 : ((cntW ps (i : Int) : Int) == (ps.length : Int)) = false := by rw [beq_eq_false_iff_ne]; omega
    repeat (with_reducible (first | apply nx | apply wQ rfl | ((first | apply wV | apply wW | apply wX | (apply wy cf0_ok; (focus kernel_rfl))); (focus (simp only [Tryz.f33, hjl', b0, b1, e4, htl, q1, q2, List.length_map, go_sem]; rfl))) | refine wz cf0_ok ?_ | (refine wa ?_; refine And.intro ?_ ?_; (focus kernel_rfl))))
    refine roundQ.t 2 [6, 5, 2, 1] hlt (by simp only [ltB_sns, ltB_rzs, ltB_is, ltB_sl, ltBL_slx, hl2, go_sem]) (by rw [hwt, List.map_append, hd1, wordW, if_pos h0]; simp only [go_sem])
   ·have b0 : ((cntW ps (i : Int) : Int) == 0) = false := by rw [beq_eq_false_iff_ne]; omega
    by_cases h1 : cntW ps (i : Int) = ps.length
    ·have b1 : ((cntW ps (i : Int) : Int) == (ps.length : Int)) = true := by rw [h1]; simp
     repeat (with_reducible (first | apply nx | apply wQ rfl | ((first | apply wV | apply wW | apply wX | (apply wy cf0_ok; (focus kernel_rfl))); (focus (simp only [Tryz.f33, hjl', b0, b1, e4, htl, q1, q2, List.length_map, go_sem]; rfl))) | refine wz cf0_ok ?_ | (refine wa ?_; refine And.intro ?_ ?_; (focus kernel_rfl))))
     refine roundQ.t 2 [6, 5, 2, 1] hlt (by simp only [ltB_sns, ltB_rzs, ltB_is, ltB_sl, ltBL_slx, hl2, go_sem]) (by rw [hwt, List.map_append, hd1, wordW, if_neg h0, if_pos h1]; simp only [go_sem])
    ·have b1 : ((cntW ps (i : Int) : Int) == (ps.length : Int)) = false := by rw [beq_eq_false_iff_ne]; omega
     repeat (with_reducible (first | apply nx | apply wQ rfl | ((first | apply wV | apply wW | apply wX | (apply wy cf0_ok; (focus kernel_rfl))); (focus (simp only [Tryz.f33, hjl', b0, b1, e4, htl, q1, q2, List.length_map, go_sem]; rfl))) | refine wz cf0_ok ?_ | (refine wa ?_; refine And.intro ?_ ?_; (focus kernel_rfl))))
     refine roundQ.t 2 [6, 5, 2, 1] hlt (by simp only [ltB_sns, ltB_rzs, ltB_is, ltB_sl, ltBL_slx, hl2, go_sem]) (by rw [hwt, List.map_append, hd1, wordW, if_neg h0, if_neg h1]; simp only [go_sem])
 ·have hlt' : ¬ (i : Int) < s.sc.length := by omega
  obtain rfl : i = s.sc.length := by omega
  have hd0 : decide (s.sc.length = 0) = false := decide_eq_false (by omega)
  have hwl := words_len s.sc.length ps
  rw [List.take_of_length_le (by omega), hd0]
  repeat (with_reducible (first | apply nx | apply wQ rfl | ((first | apply wV | apply wW | apply wX | (apply wy cf0_ok; (focus kernel_rfl))); (focus (simp only [Tryz.f33, hlt', List.length_map, go_sem]; rfl))) | refine wz cf0_ok ?_ | (refine wa ?_; refine And.intro ?_ ?_; (focus kernel_rfl))))
  refine ⟨rfl, rfl, _, rfl, ?_⟩
  exact leave_row (sg := [.var s.cells false, .row false 44 1 ((wordsB s.sc.length ps).map ii) false]) (id := 1) (m := s.sc.length) rfl (closedL_is _) (by rw [List.length_map, hwl])
end Go.Pv
