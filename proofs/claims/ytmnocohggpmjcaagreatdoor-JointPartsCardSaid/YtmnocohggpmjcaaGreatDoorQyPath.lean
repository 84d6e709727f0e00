/- Contracts: the best way from a pose to another one: the walk. -/
import Derived.Test.YtmnocohggpmjcaaGreatDoorQyWay
set_option linter.all false
namespace Go.Pv
open Go Go.RowKit Go.Proofs
set_option maxRecDepth 200000
set_option maxHeartbeats 4000000
def cfXh : CallF := cfAdd (cfAdd (cfAdd (cfAdd (cfAdd (cfAdd (cfAdd cf0 85 c85) 96 c96) 86 c86) 97 c97s) 98 c98) 99 c99s) 100 c100
theorem cfXh_ok : CallFOk Tryz.prog cfXh := cfAdd_ok (cfAdd_ok (cfAdd_ok (cfAdd_ok (cfAdd_ok (cfAdd_ok (cfAdd_ok cf0_ok c85_ok) c96_ok) c86_ok) c97s_ok) c98_ok) c99s_ok) c100_ok
theorem Path_42 (s : Int) (z zh zr za zb : Z) (ls : List Lb) (g : Stg) (a b : List Int) (hzo : zOk z (ls.map encLb) = true) (hh : zOk zh (g.hs.map encFld) = true) (hr : zOk zr (g.rs.map ii) = true) (ha : zOk za (a.map ii) = true) (hb : zOk zb (b.map ii) = true) :
    CallOk Tryz.prog 42 [.agg [ii s, .sl z (ls.map encLb)], encStg zh zr g, .sl za (a.map ii), .sl zb (b.map ii)] [] (.ret (pathR s ls g a b)) [] := by
  refine CallOk.ofF hTT Tryz.func42 rfl rfl ?_
  have hd := decFig_enc s z ls hzo
  have hd2 := decStg_enc hh hr
  have hd3 := decIs1_enc ha
  have hd4 := decIs1_enc hb
  unfold pathR
  unfold encStg at hd2 ⊢
  cases a0 : figB s ls
  · repeat (first | (with_reducible (first | apply wA | apply wB | apply wC | apply wD | apply wE | apply wF | apply wG | apply wH | apply wI | apply wJ | apply wK | apply wL | apply wM | apply wN | apply wO | apply wP | apply wQ rfl | apply wR | apply wS | apply wT | apply wU)) | ((with_reducible (first | apply wV | apply wW | apply wX | (apply wY [] hTT cfXh_ok noM_ok mixed; (focus kernel_rfl)))); (focus (simp only [Tryz.f42, cfXh, c85, hd, a0, go_sem]; with_reducible rfl))) | (with_reducible refine wZ hTT cfXh_ok noM_ok ?_) | (with_reducible refine wa ?_; refine And.intro ?_ ?_; (focus kernel_rfl)))
    exact ⟨rfl, rfl, _, rfl, leave_closed rfl⟩
  have hl := fig_len a0
  have hs : ls.length ≤ maxLen := by unfold maxLen; omega
  have hs2 : ls.length ≤ 1000 := by omega
  cases a1 : stgG ls g
  · repeat (first | (with_reducible (first | apply wA | apply wB | apply wC | apply wD | apply wE | apply wF | apply wG | apply wH | apply wI | apply wJ | apply wK | apply wL | apply wM | apply wN | apply wO | apply wP | apply wQ rfl | apply wR | apply wS | apply wT | apply wU)) | ((with_reducible (first | apply wV | apply wW | apply wX | (apply wY [] hTT cfXh_ok noM_ok mixed; (focus kernel_rfl)))); (focus (simp only [Tryz.f42, cfXh, c85, c96, hd, hd2, a0, a1, hs, go_sem]; with_reducible rfl))) | (with_reducible refine wZ hTT cfXh_ok noM_ok ?_) | (with_reducible refine wa ?_; refine And.intro ?_ ?_; (focus kernel_rfl)))
    exact ⟨rfl, rfl, _, rfl, leave_closed rfl⟩
  cases a2 : poseG ls a
  · repeat (first | (with_reducible (first | apply wA | apply wB | apply wC | apply wD | apply wE | apply wF | apply wG | apply wH | apply wI | apply wJ | apply wK | apply wL | apply wM | apply wN | apply wO | apply wP | apply wQ rfl | apply wR | apply wS | apply wT | apply wU)) | ((with_reducible (first | apply wV | apply wW | apply wX | (apply wY [] hTT cfXh_ok noM_ok mixed; (focus kernel_rfl)))); (focus (simp only [Tryz.f42, cfXh, c85, c96, c86, hd, hd2, hd3, a0, a1, a2, hs, hs2, go_sem]; with_reducible rfl))) | (with_reducible refine wZ hTT cfXh_ok noM_ok ?_) | (with_reducible refine wa ?_; refine And.intro ?_ ?_; (focus kernel_rfl)))
    exact ⟨rfl, rfl, _, rfl, leave_closed rfl⟩
  cases a3 : poseG ls b
  · repeat (first | (with_reducible (first | apply wA | apply wB | apply wC | apply wD | apply wE | apply wF | apply wG | apply wH | apply wI | apply wJ | apply wK | apply wL | apply wM | apply wN | apply wO | apply wP | apply wQ rfl | apply wR | apply wS | apply wT | apply wU)) | ((with_reducible (first | apply wV | apply wW | apply wX | (apply wY [] hTT cfXh_ok noM_ok mixed; (focus kernel_rfl)))); (focus (simp only [Tryz.f42, cfXh, c85, c96, c86, hd, hd2, hd3, hd4, a0, a1, a2, a3, hs, hs2, go_sem]; with_reducible rfl))) | (with_reducible refine wZ hTT cfXh_ok noM_ok ?_) | (with_reducible refine wa ?_; refine And.intro ?_ ?_; (focus kernel_rfl)))
    exact ⟨rfl, rfl, _, rfl, leave_closed rfl⟩
  rw [if_pos ⟨rfl, rfl, rfl, rfl⟩]
  have H : StOk s z zh zr ls g := ⟨hzo, hh, hr, a0, a1⟩
  have hsb : stB s z zh zr ls g = true := stB_iff.2 H
  have hdk := decSt_enc s z zh zr ls g
  unfold stgC at hdk
  repeat (first | (with_reducible (first | apply wA | ((fail_if_success (refine RunQ.seq (x := .region 4 _ _) ?_)); (apply wB)) | apply wC | apply wD | apply wE | apply wF | apply wG | apply wH | apply wI | apply wJ | apply wK | apply wL | apply wM | apply wN | apply wO | apply wP | apply wQ rfl | apply wR | apply wS | apply wT | apply wU)) | ((with_reducible (first | apply wV | apply wW | apply wX | (apply wY [] hTT cfXh_ok noM_ok mixed; (focus kernel_rfl)))); (focus (simp only [Tryz.f42, cfXh, c85, c96, c86, hd, hd2, hd3, hd4, a0, a1, a2, a3, hs, hs2, go_sem]; with_reducible rfl))) | ((fail_if_success (with_reducible show RunQ _ (.region 4 _ _) _ _)); (with_reducible refine wZ hTT cfXh_ok noM_ok ?_)) | (with_reducible refine wa ?_; refine And.intro ?_ ?_; (focus kernel_rfl)))
  refine RunQ.keep [10, 2, 3] (by simp only [go_sem]; rfl) ?_
  cases a4 : finG s ls g a
  · repeat (first | (with_reducible (first | apply wA | apply wB | apply wC | apply wD | apply wE | apply wF | apply wG | apply wH | apply wI | apply wJ | apply wK | apply wL | apply wM | apply wN | apply wO | apply wP | apply wQ rfl | apply wR | apply wS | apply wT | apply wU)) | ((with_reducible (first | apply wV | apply wW | apply wX | (apply wY [] hTT cfXh_ok noM_ok mixed; (focus kernel_rfl)))); (focus (simp only [Tryz.f42, cfXh, c97s, hdk, hd3, hsb, a2, a4, and_self, if_true, go_sem]; with_reducible rfl))) | (with_reducible refine wZ hTT cfXh_ok noM_ok ?_) | (with_reducible refine wa ?_; refine And.intro ?_ ?_; (focus kernel_rfl)))
    exact ⟨rfl, rfl, _, rfl, leave_closed rfl⟩
  cases a5 : finG s ls g b
  · repeat (first | (with_reducible (first | apply wA | apply wB | apply wC | apply wD | apply wE | apply wF | apply wG | apply wH | apply wI | apply wJ | apply wK | apply wL | apply wM | apply wN | apply wO | apply wP | apply wQ rfl | apply wR | apply wS | apply wT | apply wU)) | ((with_reducible (first | apply wV | apply wW | apply wX | (apply wY [] hTT cfXh_ok noM_ok mixed; (focus kernel_rfl)))); (focus (simp only [Tryz.f42, cfXh, c97s, hdk, hd3, hd4, hsb, a2, a3, a4, a5, and_self, if_true, go_sem]; with_reducible rfl))) | (with_reducible refine wZ hTT cfXh_ok noM_ok ?_) | (with_reducible refine wa ?_; refine And.intro ?_ ?_; (focus kernel_rfl)))
    exact ⟨rfl, rfl, _, rfl, leave_closed rfl⟩
  rw [if_pos ⟨rfl, rfl⟩]
  have hal := (pose_at a2).1
  have ha5 : a.length ≤ 5 := by omega
  have hQn : ∀ x ∈ awayG s ls g b, x.1.length = ls.length := fun x hx => (pose_at (away_pose a3 60000 x hx)).1
  have hQd : ((awayG s ls g b).map Prod.fst).Nodup := away_nodup 60000
  have hlk := fun (sg : List Box) (k : List Int) (hk : k.length = ls.length) => look_im (Q := awayG s ls g b) sg hk (by omega) hQn hQd
  have hQl := away_len (s := s) (ls := ls) (g := g) (f := b) a0 a3 60000
  have hdec : decL decI (a.map ii) = some a := decIs a
  repeat (first | (with_reducible (first | apply wA | ((fail_if_success (refine RunQ.seq (x := .region 6 _ _) ?_)); (apply wB)) | apply wC | apply wD | apply wE | apply wF | apply wG | apply wH | apply wI | apply wJ | apply wK | apply wL | apply wM | apply wN | apply wO | apply wP | apply wQ rfl | apply wR | apply wS | apply wT | apply wU)) | ((with_reducible (first | apply wV | apply wW | apply wX | (apply wY [] hTT cfXh_ok noM_ok mixed; (focus kernel_rfl)))); (focus (simp only [Tryz.f42, cfXh, c97s, hdk, hd3, hd4, hsb, a2, a3, a4, a5, and_self, if_true, go_sem]; with_reducible rfl))) | ((fail_if_success (with_reducible show RunQ _ (.region 6 _ _) _ _)); (with_reducible refine wZ hTT cfXh_ok noM_ok ?_)) | (with_reducible refine wa ?_; refine And.intro ?_ ?_; (focus kernel_rfl)))
  refine RunQ.keep [10, 2, 3] (by simp only [go_sem]; rfl) ?_
  repeat (first | (with_reducible (first | apply wA | ((fail_if_success (refine RunQ.seq (x := .region 7 _ _) ?_)); (apply wB)) | apply wC | apply wD | apply wE | apply wF | apply wG | apply wH | apply wI | apply wJ | apply wK | apply wL | apply wM | apply wN | apply wO | apply wP | apply wQ rfl | apply wR | apply wS | apply wT | apply wU)) | ((with_reducible (first | apply wV | apply wW | apply wX | (apply wY [] hTT cfXh_ok noM_ok mixed; (focus kernel_rfl)))); (focus (simp only [Tryz.f42, cfXh, c98, hdk, hd4, hsb, a3, and_self, if_true, go_sem]; with_reducible rfl))) | ((fail_if_success (with_reducible show RunQ _ (.region 7 _ _) _ _)); (with_reducible refine wZ hTT cfXh_ok noM_ok ?_)) | (with_reducible refine wa ?_; refine And.intro ?_ ?_; (focus kernel_rfl)))
  refine RunQ.keep [11, 10, 2] (by simp only [go_sem]; rfl) ?_
  have hdb := fun l => dG_bd (s := s) (ls := ls) (g := g) (f := b) l
  generalize hQ : awayG s ls g b = Q at *
  have hlka := fun sg => hlk sg a hal
  have hza : za ≠ .n := fun e => by
    have := zOk_map ha e
    rw [this] at hal; simp at hal; omega
  refine RunQ.slA 2 rfl hza rfl ?_
  refine RunQ.keep [11, 10, 2] (by simp only [go_sem]; rfl) ?_
  refine RunQ.seq ?_
  refine RunQ.drawn [] hTT cfXh_ok noM_ok mixed (by kernel_rfl) (by simp only [go_sem]; rfl) ?_
  iterate 9 (apply DrawQ.step; (focus (simp only [Tryz.f42, cfXh, c99s, closedL_is, hdec, ha5, hlka, freeB, go_sem]; with_reducible rfl)))
  refine DrawQ.nil ⟨boxOk_ren [3, 4] [(false, none, [0]), (false, none, []), (false, none, [1]), (false, none, []), (false, none, []), (false, none, []), (false, none, []), (false, none, []), (false, none, [])] (by decide) (by kernel_rfl) rfl (by kernel_rfl), ?_⟩
  refine thenQ.n ?_
  refine RunQ.keep [13, 11, 10, 2] (by simp only [go_sem]; rfl) ?_
  cases hk : hasK Q a
  · rw [hk] at hlka
    repeat (first | (with_reducible (first | apply wA | apply wB | apply wC | apply wD | apply wE | apply wF | apply wG | apply wH | apply wI | apply wJ | apply wK | apply wL | apply wM | apply wN | apply wO | apply wP | apply wQ rfl | apply wR | apply wS | apply wT | apply wU)) | ((with_reducible (first | apply wV | apply wW | apply wX | (apply wY [] hTT cfXh_ok noM_ok mixed; (focus kernel_rfl)))); (focus (simp only [Tryz.f42, hk, go_sem]; with_reducible rfl))) | (with_reducible refine wZ hTT cfXh_ok noM_ok ?_) | (with_reducible refine wa ?_; refine And.intro ?_ ?_; (focus kernel_rfl)))
    exact ⟨rfl, rfl, _, rfl, leave_closed rfl⟩
  rw [if_pos rfl]
  repeat (first | (with_reducible (first | apply wA | ((fail_if_success (refine RunQ.seq (x := .region 12 _ _) ?_)); (apply wB)) | apply wC | apply wD | apply wE | apply wF | apply wG | apply wH | apply wI | apply wJ | apply wK | apply wL | apply wM | apply wN | apply wO | apply wP | apply wQ rfl | apply wR | apply wS | apply wT | apply wU)) | ((with_reducible (first | apply wV | apply wW | apply wX | (apply wY [] hTT cfXh_ok noM_ok mixed; (focus kernel_rfl)))); (focus (simp only [Tryz.f42, hk, go_sem]; with_reducible rfl))) | ((fail_if_success (with_reducible show RunQ _ (.region 12 _ _) _ _)); (with_reducible refine wZ hTT cfXh_ok noM_ok ?_)) | (with_reducible refine wa ?_; refine And.intro ?_ ?_; (focus kernel_rfl)))
  refine RunQ.keep [15, 14, 11, 10, 2] (by simp only [go_sem]; rfl) ?_
  refine RunQ.seq ?_
  refine RunQ.drawn [] hTT cfXh_ok noM_ok mixed (by kernel_rfl) (by simp only [go_sem]; rfl) ?_
  iterate 5 (apply DrawQ.step; (focus (simp only [Tryz.f42, cfXh, c99s, closedL_is, hdec, ha5, hlka, freeB, go_sem]; with_reducible rfl)))
  refine DrawQ.nil ⟨boxOk_ren [3, 7] [(false, none, [0]), (false, none, []), (false, none, [1]), (false, none, []), (false, none, [])] (by decide) (by kernel_rfl) rfl (by kernel_rfl), ?_⟩
  refine thenQ.n ?_
  refine RunQ.keep [69, 68, 15, 14, 11, 10] (by simp only [go_sem]; rfl) ?_
  repeat (first | (with_reducible (first | apply wA | apply wB | apply wC | apply wD | apply wE | apply wF | apply wG | apply wH | apply wI | apply wJ | apply wK | apply wL | apply wM | apply wN | apply wO | apply wP | apply wQ rfl | apply wR | apply wS | apply wT | apply wU)) | ((with_reducible (first | apply wV | apply wW | apply wX | (apply wY [] hTT cfXh_ok noM_ok mixed; (focus kernel_rfl)))); (focus (simp only [Tryz.f42, go_sem]; with_reducible rfl))) | (with_reducible refine wZ hTT cfXh_ok noM_ok ?_) | (with_reducible refine wa ?_; refine And.intro ?_ ?_; (focus kernel_rfl)))
  refine RunQ.nilBox 5 0 130 2 rfl rfl rfl ?_
  have hcf : closedL [ii s, .sl z (ls.map encLb)] = true := by simp [closedL, PV.closed, closedL_lbs]
  have hcs : closedL [ii g.e.a, ii g.e.b, ii g.e.c, ii g.e.d, .sl zh (g.hs.map encFld), .sl zr (g.rs.map ii)] = true := by simp [closedL, PV.closed, closedL_flds, closedL_is]
  have hKc := closed_stgC s z zh zr ls g
  have hda := hdb a
  generalize hdd : dG Q a = D at *
  have hDn : ((D.toNat : Nat) : Int) = D := by omega
  refine RunQ.loop (fun i s' => ∃ (now : List Int) (out : List (Int × Int)), poseG ls now = true ∧ pathL s ls g Q D.toNat a = out ++ pathL s ls g Q (D.toNat - i) now ∧ out.length ≤ i ∧
      s' = ⟨[(69, ii i), (68, ii D), (15, .bp 6 0), (14, .bp 5 0), (11, .bp 3 0), (10, .bp 2 0)], 93, [.var [ii s, .sl z (ls.map encLb)] false, .var [ii g.e.a, ii g.e.b, ii g.e.c, ii g.e.d, .sl zh (g.hs.map encFld), .sl zr (g.rs.map ii)] false,
        .var (stgC s z zh zr ls g) false, .var [.im (mpK Q) (mpV Q)] false, .dead, .var [.ms 8 out.length] false, .var [pvA now] false, .dead, .row (decide (out.length = 0)) 130 2 (out.map encT) false]⟩)
    D.toNat ⟨a, [], a2, rfl, Nat.le_refl _, rfl⟩ ?_
  rintro i _ hi ⟨now, out, hnp, hpath, hol, rfl⟩
  by_cases hlt : i < D.toNat
  · have hlt' : (i : Int) < D := by omega
    have hdn : decL decI (now.map ii) = some now := decIs now
    have hnl := (pose_at hnp).1
    have hn5 : now.length ≤ 5 := by omega
    have e4 : IntKind.i64.wrap ((i : Int) + 1) = ((i + 1 : Nat) : Int) := wrap_id (by omega) (by omega)
    dsimp only [stgC]
    repeat (first | (with_reducible (first | apply wA | apply wB | apply wC | apply wD | apply wE | apply wF | apply wG | apply wH | apply wI | apply wJ | apply wK | apply wL | apply wM | apply wN | apply wO | apply wP | apply wQ rfl | apply wR | apply wS | apply wT | apply wU)) | ((with_reducible (first | apply wV | apply wW | apply wX | (apply wY [] hTT cfXh_ok noM_ok mixed; (focus kernel_rfl)))); (focus (simp only [Tryz.f42, hlt', go_sem]; with_reducible rfl))) | (with_reducible refine wZ hTT cfXh_ok noM_ok ?_) | (with_reducible refine wa ?_; refine And.intro ?_ ?_; (focus kernel_rfl)))
    refine RunQ.scope ?_
    repeat (first | (with_reducible (first | apply wA | apply wB | apply wC | apply wD | apply wE | apply wF | apply wG | apply wH | apply wI | apply wJ | apply wK | apply wL | apply wM | apply wN | apply wO | apply wP | apply wQ rfl | apply wR | apply wS | apply wT | apply wU)) | ((with_reducible (first | apply wV | apply wW | apply wX | (apply wY [] hTT cfXh_ok noM_ok mixed; (focus kernel_rfl)))); (focus (simp only [Tryz.f42, cfXh, c100, hdk, hdn, go_sem]; with_reducible rfl))) | (with_reducible refine wZ hTT cfXh_ok noM_ok ?_) | (with_reducible refine wa ?_; refine And.intro ?_ ?_; (focus kernel_rfl)))
    refine RunQ.keep [73, 69, 68, 15, 14, 11, 10] (by simp only [go_sem]; rfl) ?_
    have hlkn := fun sg => hlk sg now hnl
    have hdn2 := hdb now
    have ew : IntKind.i64.wrap (dG Q now - 1) = dG Q now - 1 := wrap_id (by omega) (by omega)
    have r2 : out.length + 1 ≤ maxLen := by unfold maxLen; omega
    have r3 : (out.length + 1) * 16 ≤ 140737488355328 := by omega
    have htrc : ∀ l : List (Int × Int), closedL (l.map encT) = true := fun l => closedL_map (fun _ => rfl) l
    have hpn : ∀ l : List Int, (pvA l).closed = true := fun l => closedL_is l
    have lK : ∀ m, ltBL m (mpK Q) = true := fun m => ltBL_of_closed m _ (mpKc Q)
    have lV : ∀ m, ltBL m (mpV Q) = true := fun m => ltBL_of_closed m _ (mpVc Q)
    have lT : ∀ m (l : List (Int × Int)), ltBL m (l.map encT) = true := fun m l => ltBL_of_closed m _ (htrc l)
    obtain ⟨k0, hk0⟩ : ∃ k0, D.toNat - i = k0 + 1 := ⟨D.toNat - i - 1, by omega⟩
    have hk1 : D.toNat - (i + 1) = k0 := by omega
    rw [hk0] at hpath
    have hbx : ∀ (out : List (Int × Int)) (now : List Int), ltBB 9 [Box.var [ii s, .sl z (ls.map encLb)] false, .var [ii g.e.a, ii g.e.b, ii g.e.c, ii g.e.d, .sl zh (g.hs.map encFld), .sl zr (g.rs.map ii)] false,
        .var (stgC s z zh zr ls g) false, .var [.im (mpK Q) (mpV Q)] false, .dead, .var [.ms 8 out.length] false, .var [pvA now] false, .dead, .row (decide (out.length = 0)) 130 2 (out.map encT) false] = true := by
      intro out now
      have l1 := ltBL_of_closed 9 _ hcf
      have l2 := ltBL_of_closed 9 _ hcs
      have l3 := ltBL_of_closed 9 _ hKc
      have l4 : ltBL 9 [PV.im (mpK Q) (mpV Q)] = true := ltBL_of_closed 9 _ (by simp [closedL, PV.closed, mpKc, mpVc])
      have l5 : ltBL 9 [pvA now] = true := ltBL_of_closed 9 _ (by simp [closedL, hpn])
      have l6 := ltBL_of_closed 9 _ (htrc out)
      simp only [ltBB, Box.ltB, l1, l2, l3, l4, l5, l6, Bool.and_true]
      rfl
    refine RunQ.range (L := (nextG s ls g now).map fun (y : (Int × Int) × List Int) => [encT y.1, pvL y.2]) (first := []) (cap := [.ip (stgC s z zh zr ls g), .ip [pvA now]]) rfl (ent Tryz.func144 rfl) (next_144 H now hnp) ?_ ?_ ?_
      (fun k st => st = [.var [ii s, .sl z (ls.map encLb)] false, .var [ii g.e.a, ii g.e.b, ii g.e.c, ii g.e.d, .sl zh (g.hs.map encFld), .sl zr (g.rs.map ii)] false,
        .var (stgC s z zh zr ls g) false, .var [.im (mpK Q) (mpV Q)] false, .dead, .var [.ms 8 out.length] false, .var [pvA now] false, .dead, .row (decide (out.length = 0)) 130 2 (out.map encT) false] ∧
        ((nextG s ls g now).take k).find? (fun x => decide (dG Q x.2 = dG Q now - 1)) = none)
      ⟨rfl, rfl⟩ ?_ ?_ ?_
    · intro e he
      obtain ⟨y, _, rfl⟩ := List.mem_map.1 he
      rfl
    · intro t ht
      simp only [List.mem_cons, List.not_mem_nil, or_false] at ht
      rcases ht with rfl | rfl <;> decide
    · intro t v hv
      obtain ⟨q, hq, rfl⟩ := getT_mem hv
      simp only [List.mem_cons, List.not_mem_nil, or_false] at hq
      rcases hq with rfl | rfl | rfl | rfl | rfl | rfl | rfl
      · refine .fn (fun c hc => by cases hc) fun c hc => ?_
        simp only [List.mem_cons, List.not_mem_nil, or_false] at hc
        rcases hc with rfl | rfl
        · exact (lt_of_closed _ (show (PV.ip (stgC s z zh zr ls g)).closed = true from hKc)).mono (Nat.zero_le _)
        · exact (lt_of_closed _ (show (PV.ip [pvA now]).closed = true from by simp [PV.closed, closedL, closedL_is])).mono (Nat.zero_le _)
      · exact .int
      · exact .int
      all_goals exact .bp (by simp)
    · rintro k st ⟨rfl, _⟩
      exact ⟨rfl, fun x hx => (lt_ltBB (hbx out now) x hx).mono (by simp), sameLoops_of _ _ rfl⟩
    · rintro k e st he ⟨rfl, hno⟩
      obtain ⟨⟨t, y⟩, hy, rfl⟩ : ∃ y, (nextG s ls g now)[k]? = some y ∧ e = [encT y.1, pvL y.2] := by
        rw [List.getElem?_map, Option.map_eq_some_iff] at he
        obtain ⟨y, a, rfl⟩ := he
        exact ⟨y, a, rfl⟩
      have hyn : y ∈ nbG s ls g now := List.mem_map.2 ⟨(t, y), List.mem_of_getElem? hy, rfl⟩
      obtain ⟨_, _, _, hyp, _⟩ := nb_mem.1 hyn
      have hyl := (pose_at hyp).1
      have hy5 : y.length ≤ 5 := by omega
      have hdy : decL decI (y.map ii) = some y := decIs y
      have hlky := fun sg => hlk sg y hyl
      have hpv : pvL y = pvA y := by
        unfold pvL
        cases y with
        | nil => simp at hyl; omega
        | cons a r => rfl
      have htk : (nextG s ls g now).take (k + 1) = (nextG s ls g now).take k ++ [(t, y)] := by rw [List.take_add_one, hy]; rfl
      have hdr : nextG s ls g now = (nextG s ls g now).take k ++ (t, y) :: (nextG s ls g now).drop (k + 1) := by
        have := drop_get hy
        rw [← this, List.take_append_drop]
      dsimp only
      rw [hpv]
      by_cases hc : dG Q y = dG Q now - 1
      · have hcb : (dG Q y == dG Q now - 1) = true := by rw [hc]; simp
        have hpl : pathL s ls g Q (k0 + 1) now = t :: pathL s ls g Q k0 y := by
          show (match (nextG s ls g now).find? _ with | some x => _ | none => _) = _
          rw [hdr, List.find?_append, hno, List.find?_cons, decide_eq_true hc]
          rfl
        refine .exit 2 [.var [ii s, .sl z (ls.map encLb)] false, .var [ii g.e.a, ii g.e.b, ii g.e.c, ii g.e.d, .sl zh (g.hs.map encFld), .sl zr (g.rs.map ii)] false,
          .var (stgC s z zh zr ls g) false, .var [.im (mpK Q) (mpV Q)] false, .dead, .var [.ms 8 (out ++ [t]).length] false, .var [pvA y] false, .dead, .row (decide ((out ++ [t]).length = 0)) 130 2 ((out ++ [t]).map encT) false]
          rfl (fun x hx => (lt_ltBB (hbx (out ++ [t]) y) x hx).mono (by simp)) (sameLoops_of _ _ rfl) ?_ fun own ho => ?_
        · repeat (first | (with_reducible (first | apply wA | apply wB | apply wC | apply wD | apply wE | apply wF | apply wG | apply wH | apply wI | apply wJ | apply wK | apply wL | apply wM | apply wN | apply wO | apply wP | apply wQ rfl | apply wR | apply wS | apply wT | apply wU)) | ((with_reducible (first | apply wV | apply wW | apply wX | (apply wY [] hTT cfXh_ok noM_ok mixed; (focus kernel_rfl)))); (focus (simp only [Tryz.f42, go_sem]; with_reducible rfl))) | (with_reducible refine wZ hTT cfXh_ok noM_ok ?_) | (with_reducible refine wa ?_; refine And.intro ?_ ?_; (focus kernel_rfl)))
          refine ⟨fun l e => (by cases e), ?_⟩
          repeat (first | (with_reducible (first | apply wA | apply wB | apply wC | apply wD | apply wE | apply wF | apply wG | apply wH | apply wI | apply wJ | apply wK | apply wL | apply wM | apply wN | apply wO | apply wP | apply wQ rfl | apply wR | apply wS | apply wT | apply wU)) | ((with_reducible (first | apply wV | apply wW | apply wX | (apply wY [] hTT cfXh_ok noM_ok mixed; (focus kernel_rfl)))); (focus (simp only [Tryz.f42, e4, go_sem]; with_reducible rfl))) | (with_reducible refine wZ hTT cfXh_ok noM_ok ?_) | (with_reducible refine wa ?_; refine And.intro ?_ ?_; (focus kernel_rfl)))
          refine roundQ.t 9 [69, 68, 15, 14, 11, 10] hlt (by simp only [lK, lV, lT, stgC, ltB_lbs, ltB_flds, ltB_is, ltB_isl, go_sem]) ⟨y, out ++ [t], hyp, by rw [hpath, hpl, hk1]; simp, by simp; omega, by simp only [stgC, go_sem]⟩
        · unfold YRun
          generalize hX : Box.loop _ = X1
          generalize hY : (_ : List Box) ++ X1 :: own = Y
          have y0 : ∀ B : List Box, (Y ++ B)[Y.length]? = B[0]? := app_get0 Y
          have y1 : ∀ (B : List Box) (q : Box), (Y ++ B).set Y.length q = Y ++ B.set 0 q := app_set0 Y
          repeat (first | (with_reducible (first | apply wA | apply wB | apply wC | apply wD | apply wE | apply wF | apply wG | apply wH | apply wI | apply wJ | apply wK | apply wL | apply wM | apply wN | apply wO | apply wP | apply wQ rfl | apply wR | apply wS | apply wT | apply wU)) | ((with_reducible (first | apply wV | apply wW | apply wX | (apply wY [] hTT cfXh_ok noM_ok mixed; (focus kernel_rfl)))); (focus (simp only [Tryz.f42, encT, putPs, List.toList_toArray, y0, y1, go_sem]; with_reducible rfl))) | (with_reducible refine wZ hTT cfXh_ok noM_ok ?_) | (with_reducible refine wa ?_; refine And.intro ?_ ?_; (focus kernel_rfl)))
          refine ⟨rfl, own ++ [.var [ii t.1, ii t.2] false], by rw [← hX, ← hY, ← hX]; simp [encT], ?_⟩
          dsimp only
          generalize hX2 : Box.loop _ = X2
          obtain ⟨SS, hSS⟩ : ∃ SS : Box → Box → Box → List Box, ∀ v5 v6 r, SS v5 v6 r = [.var [ii s, .sl z (ls.map encLb)] false, .var [ii g.e.a, ii g.e.b, ii g.e.c, ii g.e.d, .sl zh (g.hs.map encFld), .sl zr (g.rs.map ii)] false, .var (stgC s z zh zr ls g) false, .var [.im (mpK Q) (mpV Q)] false, .dead, v5, v6, .dead, r] ++ (X2 :: (own ++ [.var [ii t.1, ii t.2] false])) := ⟨fun v5 v6 r => [.var [ii s, .sl z (ls.map encLb)] false, .var [ii g.e.a, ii g.e.b, ii g.e.c, ii g.e.d, .sl zh (g.hs.map encFld), .sl zr (g.rs.map ii)] false, .var (stgC s z zh zr ls g) false, .var [.im (mpK Q) (mpV Q)] false, .dead, v5, v6, .dead, r] ++ (X2 :: (own ++ [.var [ii t.1, ii t.2] false])), fun _ _ _ => rfl⟩
          have hYl : Y.length = own.length + 10 := by rw [← hY]; simp
          rw [← hSS]
          generalize hN : own.length + 11 = N
          generalize hNT : Y.length = NT
          have ssl : ∀ v5 v6 r, (SS v5 v6 r).length = N := fun v5 v6 r => by rw [hSS, ← hN]; simp
          have sapp : ∀ v5 v6 r B, SS v5 v6 r ++ B = [.var [ii s, .sl z (ls.map encLb)] false, .var [ii g.e.a, ii g.e.b, ii g.e.c, ii g.e.d, .sl zh (g.hs.map encFld), .sl zr (g.rs.map ii)] false, .var (stgC s z zh zr ls g) false, .var [.im (mpK Q) (mpV Q)] false, .dead, v5, v6, .dead, r] ++ (X2 :: (own ++ (.var [ii t.1, ii t.2] false :: B))) := fun v5 v6 r B => by rw [hSS]; simp
          have ss3 : ∀ v5 v6 r B, (SS v5 v6 r ++ B)[3]? = some (.var [.im (mpK Q) (mpV Q)] false) := fun v5 v6 r B => by rw [sapp]; rfl
          have ss5 : ∀ v5 v6 r B, (SS v5 v6 r ++ B)[5]? = some v5 := fun v5 v6 r B => by rw [sapp]; rfl
          have ss6 : ∀ v5 v6 r B, (SS v5 v6 r ++ B)[6]? = some v6 := fun v5 v6 r B => by rw [sapp]; rfl
          have ss8 : ∀ v5 v6 r B, (SS v5 v6 r ++ B)[8]? = some r := fun v5 v6 r B => by rw [sapp]; rfl
          have ssT : ∀ v5 v6 r B, (SS v5 v6 r ++ B)[NT]? = some (.var [ii t.1, ii t.2] false) := fun v5 v6 r B => by
            rw [sapp, ← hNT, hYl]
            show (own ++ (Box.var [ii t.1, ii t.2] false :: B))[own.length]? = _
            exact app_get0 own _
          have sse0 : ∀ v5 v6 r B, (SS v5 v6 r ++ B)[N]? = B[0]? := fun v5 v6 r B => by rw [← ssl v5 v6 r]; exact app_get0 _ _
          have sse : ∀ v5 v6 r B n, (SS v5 v6 r ++ B)[N + n]? = B[n]? := fun v5 v6 r B n => by rw [← ssl v5 v6 r]; exact app_get _ _ _
          have st5 : ∀ v5 v6 r B (q : Box), (SS v5 v6 r ++ B).set 5 q = SS q v6 r ++ B := fun v5 v6 r B q => by rw [sapp, sapp]; rfl
          have st6 : ∀ v5 v6 r B (q : Box), (SS v5 v6 r ++ B).set 6 q = SS v5 q r ++ B := fun v5 v6 r B q => by rw [sapp, sapp]; rfl
          have st8 : ∀ v5 v6 r B (q : Box), (SS v5 v6 r ++ B).set 8 q = SS v5 v6 q ++ B := fun v5 v6 r B q => by rw [sapp, sapp]; rfl
          have sts0 : ∀ v5 v6 r B (q : Box), (SS v5 v6 r ++ B).set N q = SS v5 v6 r ++ B.set 0 q := fun v5 v6 r B q => by rw [← ssl v5 v6 r]; exact app_set0 _ _ _
          have sts : ∀ v5 v6 r B n (q : Box), (SS v5 v6 r ++ B).set (N + n) q = SS v5 v6 r ++ B.set n q := fun v5 v6 r B n q => by rw [← ssl v5 v6 r]; exact app_set _ _ _ _
          have hnd : [3, N, 6, N + 1].Nodup := by simp; omega
          repeat (first | (with_reducible (first | apply wA | ((fail_if_success (refine RunQ.seq (x := .region 17 _ _) ?_)); (apply wB)) | apply wC | apply wD | apply wE | apply wF | apply wG | apply wH | apply wI | apply wJ | apply wK | apply wL | apply wM | apply wN | apply wO | apply wP | apply wQ rfl | apply wR | apply wS | apply wT | apply wU)) | ((with_reducible (first | apply wV | apply wW | apply wX | (apply wY [] hTT cfXh_ok noM_ok mixed; (focus kernel_rfl)))); (focus (simp only [Tryz.f42, go_sem]; with_reducible rfl))) | ((fail_if_success (with_reducible show RunQ _ (.region 17 _ _) _ _)); (with_reducible refine wZ hTT cfXh_ok noM_ok ?_)) | (with_reducible refine wa ?_; refine And.intro ?_ ?_; (focus kernel_rfl)))
          refine RunQ.seq ?_
          refine RunQ.drawn [] hTT cfXh_ok noM_ok mixed (by kernel_rfl) (by simp only [go_sem]; rfl) ?_
          iterate 10 (apply DrawQ.step; (focus (simp only [Tryz.f42, cfXh, c99s, closedL_is, hdy, hy5, hdn, hn5, hlky, hlkn, ew, ss3, ss6, sse0, sse, sts0, sts, ssl, freeB, go_sem]; with_reducible rfl)))
          refine DrawQ.nil ⟨boxOk_ren [3, N, 6, N + 1] [(false, none, [0]), (false, none, []), (false, none, [1]), (false, none, []), (false, none, [0]), (false, none, [2]), (false, none, [3]), (false, none, []), (false, none, []), (false, none, [])] hnd (by kernel_rfl) rfl (by kernel_rfl), ?_⟩
          repeat (first | (with_reducible (first | apply wA | apply wB | apply wC | apply wD | apply wE | apply wF | apply wG | apply wH | apply wI | apply wJ | apply wK | apply wL | apply wM | apply wN | apply wO | apply wP | apply wQ rfl | apply wR | apply wS | apply wT | apply wU)) | ((with_reducible (first | apply wV | apply wW | apply wX | (apply wY [] hTT cfXh_ok noM_ok mixed; (focus kernel_rfl)))); (focus (simp only [Tryz.f42, hcb, ss5, ss6, ss8, ssT, st5, st6, st8, sse0, sse, sts0, sts, ssl, r2, r3, List.length_append, List.length_map, go_sem]; with_reducible rfl))) | (with_reducible refine wZ hTT cfXh_ok noM_ok ?_) | (with_reducible refine wa ?_; refine And.intro ?_ ?_; (focus kernel_rfl)))
          have hd0 : decide ((out ++ [t]).length = 0) = false := by simp
          exact ⟨rfl, [.var [ii t.1, ii t.2] false, .dead, .dead, .dead], by rw [sapp, hd0]; simp [encT]⟩
      · have hcb : (dG Q y == dG Q now - 1) = false := by simpa using hc
        refine .next _ ⟨rfl, by rw [htk, List.find?_append, hno]; simp [hc]⟩ fun own ho => ?_
        unfold YRun
        generalize hX : Box.loop _ = X1
        generalize hY : (_ : List Box) ++ X1 :: own = Y
        have y0 : ∀ B : List Box, (Y ++ B)[Y.length]? = B[0]? := app_get0 Y
        have y1 : ∀ (B : List Box) (q : Box), (Y ++ B).set Y.length q = Y ++ B.set 0 q := app_set0 Y
        repeat (first | (with_reducible (first | apply wA | apply wB | apply wC | apply wD | apply wE | apply wF | apply wG | apply wH | apply wI | apply wJ | apply wK | apply wL | apply wM | apply wN | apply wO | apply wP | apply wQ rfl | apply wR | apply wS | apply wT | apply wU)) | ((with_reducible (first | apply wV | apply wW | apply wX | (apply wY [] hTT cfXh_ok noM_ok mixed; (focus kernel_rfl)))); (focus (simp only [Tryz.f42, encT, putPs, List.toList_toArray, y0, y1, go_sem]; with_reducible rfl))) | (with_reducible refine wZ hTT cfXh_ok noM_ok ?_) | (with_reducible refine wa ?_; refine And.intro ?_ ?_; (focus kernel_rfl)))
        refine ⟨rfl, own ++ [.var [ii t.1, ii t.2] false], by rw [← hX, ← hY, ← hX]; simp [encT], ?_⟩
        dsimp only
        generalize hX2 : Box.loop _ = X2
        obtain ⟨SS, hSS⟩ : ∃ SS : Box → Box → Box → List Box, ∀ v5 v6 r, SS v5 v6 r = [.var [ii s, .sl z (ls.map encLb)] false, .var [ii g.e.a, ii g.e.b, ii g.e.c, ii g.e.d, .sl zh (g.hs.map encFld), .sl zr (g.rs.map ii)] false, .var (stgC s z zh zr ls g) false, .var [.im (mpK Q) (mpV Q)] false, .dead, v5, v6, .dead, r] ++ (X2 :: (own ++ [.var [ii t.1, ii t.2] false])) := ⟨fun v5 v6 r => [.var [ii s, .sl z (ls.map encLb)] false, .var [ii g.e.a, ii g.e.b, ii g.e.c, ii g.e.d, .sl zh (g.hs.map encFld), .sl zr (g.rs.map ii)] false, .var (stgC s z zh zr ls g) false, .var [.im (mpK Q) (mpV Q)] false, .dead, v5, v6, .dead, r] ++ (X2 :: (own ++ [.var [ii t.1, ii t.2] false])), fun _ _ _ => rfl⟩
        have hYl : Y.length = own.length + 10 := by rw [← hY]; simp
        rw [← hSS]
        generalize hN : own.length + 11 = N
        generalize hNT : Y.length = NT
        have ssl : ∀ v5 v6 r, (SS v5 v6 r).length = N := fun v5 v6 r => by rw [hSS, ← hN]; simp
        have sapp : ∀ v5 v6 r B, SS v5 v6 r ++ B = [.var [ii s, .sl z (ls.map encLb)] false, .var [ii g.e.a, ii g.e.b, ii g.e.c, ii g.e.d, .sl zh (g.hs.map encFld), .sl zr (g.rs.map ii)] false, .var (stgC s z zh zr ls g) false, .var [.im (mpK Q) (mpV Q)] false, .dead, v5, v6, .dead, r] ++ (X2 :: (own ++ (.var [ii t.1, ii t.2] false :: B))) := fun v5 v6 r B => by rw [hSS]; simp
        have ss3 : ∀ v5 v6 r B, (SS v5 v6 r ++ B)[3]? = some (.var [.im (mpK Q) (mpV Q)] false) := fun v5 v6 r B => by rw [sapp]; rfl
        have ss5 : ∀ v5 v6 r B, (SS v5 v6 r ++ B)[5]? = some v5 := fun v5 v6 r B => by rw [sapp]; rfl
        have ss6 : ∀ v5 v6 r B, (SS v5 v6 r ++ B)[6]? = some v6 := fun v5 v6 r B => by rw [sapp]; rfl
        have ss8 : ∀ v5 v6 r B, (SS v5 v6 r ++ B)[8]? = some r := fun v5 v6 r B => by rw [sapp]; rfl
        have ssT : ∀ v5 v6 r B, (SS v5 v6 r ++ B)[NT]? = some (.var [ii t.1, ii t.2] false) := fun v5 v6 r B => by
          rw [sapp, ← hNT, hYl]
          show (own ++ (Box.var [ii t.1, ii t.2] false :: B))[own.length]? = _
          exact app_get0 own _
        have sse0 : ∀ v5 v6 r B, (SS v5 v6 r ++ B)[N]? = B[0]? := fun v5 v6 r B => by rw [← ssl v5 v6 r]; exact app_get0 _ _
        have sse : ∀ v5 v6 r B n, (SS v5 v6 r ++ B)[N + n]? = B[n]? := fun v5 v6 r B n => by rw [← ssl v5 v6 r]; exact app_get _ _ _
        have st5 : ∀ v5 v6 r B (q : Box), (SS v5 v6 r ++ B).set 5 q = SS q v6 r ++ B := fun v5 v6 r B q => by rw [sapp, sapp]; rfl
        have st6 : ∀ v5 v6 r B (q : Box), (SS v5 v6 r ++ B).set 6 q = SS v5 q r ++ B := fun v5 v6 r B q => by rw [sapp, sapp]; rfl
        have st8 : ∀ v5 v6 r B (q : Box), (SS v5 v6 r ++ B).set 8 q = SS v5 v6 q ++ B := fun v5 v6 r B q => by rw [sapp, sapp]; rfl
        have sts0 : ∀ v5 v6 r B (q : Box), (SS v5 v6 r ++ B).set N q = SS v5 v6 r ++ B.set 0 q := fun v5 v6 r B q => by rw [← ssl v5 v6 r]; exact app_set0 _ _ _
        have sts : ∀ v5 v6 r B n (q : Box), (SS v5 v6 r ++ B).set (N + n) q = SS v5 v6 r ++ B.set n q := fun v5 v6 r B n q => by rw [← ssl v5 v6 r]; exact app_set _ _ _ _
        have hnd : [3, N, 6, N + 1].Nodup := by simp; omega
        repeat (first | (with_reducible (first | apply wA | ((fail_if_success (refine RunQ.seq (x := .region 17 _ _) ?_)); (apply wB)) | apply wC | apply wD | apply wE | apply wF | apply wG | apply wH | apply wI | apply wJ | apply wK | apply wL | apply wM | apply wN | apply wO | apply wP | apply wQ rfl | apply wR | apply wS | apply wT | apply wU)) | ((with_reducible (first | apply wV | apply wW | apply wX | (apply wY [] hTT cfXh_ok noM_ok mixed; (focus kernel_rfl)))); (focus (simp only [Tryz.f42, go_sem]; with_reducible rfl))) | ((fail_if_success (with_reducible show RunQ _ (.region 17 _ _) _ _)); (with_reducible refine wZ hTT cfXh_ok noM_ok ?_)) | (with_reducible refine wa ?_; refine And.intro ?_ ?_; (focus kernel_rfl)))
        refine RunQ.seq ?_
        refine RunQ.drawn [] hTT cfXh_ok noM_ok mixed (by kernel_rfl) (by simp only [go_sem]; rfl) ?_
        iterate 10 (apply DrawQ.step; (focus (simp only [Tryz.f42, cfXh, c99s, closedL_is, hdy, hy5, hdn, hn5, hlky, hlkn, ew, ss3, ss6, sse0, sse, sts0, sts, ssl, freeB, go_sem]; with_reducible rfl)))
        refine DrawQ.nil ⟨boxOk_ren [3, N, 6, N + 1] [(false, none, [0]), (false, none, []), (false, none, [1]), (false, none, []), (false, none, [0]), (false, none, [2]), (false, none, [3]), (false, none, []), (false, none, []), (false, none, [])] hnd (by kernel_rfl) rfl (by kernel_rfl), ?_⟩
        repeat (first | (with_reducible (first | apply wA | apply wB | apply wC | apply wD | apply wE | apply wF | apply wG | apply wH | apply wI | apply wJ | apply wK | apply wL | apply wM | apply wN | apply wO | apply wP | apply wQ rfl | apply wR | apply wS | apply wT | apply wU)) | ((with_reducible (first | apply wV | apply wW | apply wX | (apply wY [] hTT cfXh_ok noM_ok mixed; (focus kernel_rfl)))); (focus (simp only [Tryz.f42, hcb, go_sem]; with_reducible rfl))) | (with_reducible refine wZ hTT cfXh_ok noM_ok ?_) | (with_reducible refine wa ?_; refine And.intro ?_ ?_; (focus kernel_rfl)))
        exact ⟨rfl, [.var [ii t.1, ii t.2] false, .dead, .dead], by rw [sapp] <;> simp⟩
    · rintro st ⟨rfl, hno⟩
      rw [List.length_map, List.take_length] at hno
      have hpl : pathL s ls g Q (k0 + 1) now = pathL s ls g Q k0 now := by
        show (match (nextG s ls g now).find? _ with | some x => _ | none => _) = _
        rw [hno]
      repeat (first | (with_reducible (first | apply wA | apply wB | apply wC | apply wD | apply wE | apply wF | apply wG | apply wH | apply wI | apply wJ | apply wK | apply wL | apply wM | apply wN | apply wO | apply wP | apply wQ rfl | apply wR | apply wS | apply wT | apply wU)) | ((with_reducible (first | apply wV | apply wW | apply wX | (apply wY [] hTT cfXh_ok noM_ok mixed; (focus kernel_rfl)))); (focus (simp only [Tryz.f42, go_sem]; with_reducible rfl))) | (with_reducible refine wZ hTT cfXh_ok noM_ok ?_) | (with_reducible refine wa ?_; refine And.intro ?_ ?_; (focus kernel_rfl)))
      refine ⟨fun l e => (by cases e), ?_⟩
      repeat (first | (with_reducible (first | apply wA | apply wB | apply wC | apply wD | apply wE | apply wF | apply wG | apply wH | apply wI | apply wJ | apply wK | apply wL | apply wM | apply wN | apply wO | apply wP | apply wQ rfl | apply wR | apply wS | apply wT | apply wU)) | ((with_reducible (first | apply wV | apply wW | apply wX | (apply wY [] hTT cfXh_ok noM_ok mixed; (focus kernel_rfl)))); (focus (simp only [Tryz.f42, e4, go_sem]; with_reducible rfl))) | (with_reducible refine wZ hTT cfXh_ok noM_ok ?_) | (with_reducible refine wa ?_; refine And.intro ?_ ?_; (focus kernel_rfl)))
      refine roundQ.t 9 [69, 68, 15, 14, 11, 10] hlt (by simp only [lK, lV, lT, stgC, ltB_lbs, ltB_flds, ltB_is, ltB_isl, go_sem]) ⟨now, out, hnp, by rw [hpath, hpl, hk1], by omega, by simp only [stgC, go_sem]⟩
  · have hlt' : ¬ (i : Int) < D := by omega
    obtain rfl : i = D.toNat := by omega
    rw [Nat.sub_self, show pathL s ls g Q 0 now = [] from rfl, List.append_nil] at hpath
    rw [hpath]
    repeat (first | (with_reducible (first | apply wA | apply wB | apply wC | apply wD | apply wE | apply wF | apply wG | apply wH | apply wI | apply wJ | apply wK | apply wL | apply wM | apply wN | apply wO | apply wP | apply wQ rfl | apply wR | apply wS | apply wT | apply wU)) | ((with_reducible (first | apply wV | apply wW | apply wX | (apply wY [] hTT cfXh_ok noM_ok mixed; (focus kernel_rfl)))); (focus (simp only [Tryz.f42, hlt', go_sem]; with_reducible rfl))) | (with_reducible refine wZ hTT cfXh_ok noM_ok ?_) | (with_reducible refine wa ?_; refine And.intro ?_ ?_; (focus kernel_rfl)))
    have htrc : closedL (out.map encT) = true := closedL_map (fun _ => rfl) out
    exact ⟨rfl, rfl, _, rfl, leave_row2 (id := 8) (frz := false) rfl htrc (by simp) rfl⟩
end Go.Pv
