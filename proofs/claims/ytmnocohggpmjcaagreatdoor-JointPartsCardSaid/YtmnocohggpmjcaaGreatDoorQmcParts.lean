/- Contracts: how many parts there are, the program's walk. -/
import Derived.Test.YtmnocohggpmjcaaGreatDoorQmcPart
import Derived.Test.YtmnocohggpmjcaaGreatDoorQoFine
import Derived.Test.YtmnocohggpmjcaaGreatDoorQyRPath
set_option linter.all false
namespace Go.Pv
open Go Go.RowKit Go.Proofs
set_option maxRecDepth 200000
set_option maxHeartbeats 8000000
theorem mpK_k5 (Q : Dst) : mpK Q = ((Q.map Prod.fst).map k5).map encK := by
  unfold mpK
  rw [List.map_map, List.map_map]
  rfl
theorem k5_mem {A : List (List Int)} {x : List Int} {n : Nat} (hA : ∀ k ∈ A, k.length = n) (hx : x.length = n) (hn : n ≤ 5) : k5 x ∈ A.map k5 ↔ x ∈ A := by
  rw [List.mem_map]
  constructor
  · rintro ⟨y, hy, e⟩
    have := hA y hy
    rw [← k5_inj (by omega) (by omega) e]; exact hy
  · exact fun h => ⟨x, h, rfl⟩
theorem k5_nodup {A : List (List Int)} {n : Nat} (hA : ∀ k ∈ A, k.length = n) (hn : n ≤ 5) (hd : A.Nodup) : (A.map k5).Nodup := by
  unfold List.Nodup at *
  rw [List.pairwise_map]
  refine List.Pairwise.imp_of_mem ?_ hd
  intro a b ha hb hab e
  have h1 := hA a ha
  have h2 := hA b hb
  exact hab (k5_inj (by omega) (by omega) e)
theorem next_k5 {A M : List (List Int)} {n : Nat} (hA : ∀ k ∈ A, k.length = n) (hM : ∀ k ∈ M, k.length = n) (hn : n ≤ 5) (hd : ∀ k ∈ M, k ∉ A) : nextB (A.map k5) (M.map k5) = (A ++ M).map k5 := by
  unfold nextB
  rw [List.map_append, List.filter_eq_self.2]
  intro k hk
  obtain ⟨m, hm, rfl⟩ := List.mem_map.1 hk
  have : k5 m ∉ A.map k5 := fun h => hd m hm ((k5_mem hA (hM m hm) hn).1 h)
  simpa using this
/-- What Parts returns. -/
def partR (s : Int) (ls : List Lb) (g : Stg) : PV := if figB s ls = true ∧ stgG ls g = true then .tuple [ii (partsG s ls g : Nat), ii 0] else .tuple [ii 0, ii 2]
def mpB (A : List (List Int)) : Box := .map ((A.map k5).map encK) ((A.map k5).map fun _ => .bool true) false
def bxP (s : Int) (z zh zr : Z) (ls : List Lb) (g : Stg) (S : Prt) : List Box := [.var [ii s, .sl z (ls.map encLb)] false, .var [ii g.e.a, ii g.e.b, ii g.e.c, ii g.e.d, .sl zh (g.hs.map encFld), .sl zr (g.rs.map ii)] false, .var (stgC s z zh zr ls g) false, mpB S.ks, .var [.mp 3] false, .var [ii (S.rs.length : Nat)] false]
def cfMk : CallF := cfAdd (cfAdd (cfAdd (cfAdd (cfAdd cf0 85 c85) 96 c96) 108 c108) 99 c99s) 98 c98m
theorem cfMk_ok : CallFOk Tryz.prog cfMk := cfAdd_ok (cfAdd_ok (cfAdd_ok (cfAdd_ok (cfAdd_ok cf0_ok c85_ok) c96_ok) c108_ok) c99s_ok) c98m_ok
theorem Parts_50 (s : Int) (z zh zr : Z) (ls : List Lb) (g : Stg) (hzo : zOk z (ls.map encLb) = true) (hh : zOk zh (g.hs.map encFld) = true) (hr : zOk zr (g.rs.map ii) = true) :
    CallOk Tryz.prog 50 [.agg [ii s, .sl z (ls.map encLb)], encStg zh zr g] [] (.ret (partR s ls g)) [] := by
  refine CallOk.ofF hTT Tryz.func50 rfl rfl ?_
  have hd := decFig_enc s z ls hzo
  have hd2 := decStg_enc hh hr
  unfold partR
  unfold encStg at hd2 ⊢
  cases a0 : figB s ls
  · repeat (first | (with_reducible (first | apply wA | apply wB | apply wC | apply wD | apply wE | apply wF | apply wG | apply wH | apply wI | apply wJ | apply wK | apply wL | apply wM | apply wN | apply wO | apply wP | apply wQ rfl | apply wR | apply wS | apply wT | apply wU)) | ((with_reducible (first | apply wV | apply wW | apply wX | (apply wY [] hTT cfMk_ok noM_ok mixed; (focus kernel_rfl)))); (focus (simp only [Tryz.f50, cfMk, c85, hd, a0, notYield, go_sem]; with_reducible rfl))) | (with_reducible refine wZ hTT cfMk_ok noM_ok ?_) | (with_reducible refine wa ?_; refine And.intro ?_ ?_; (focus kernel_rfl)))
    exact ⟨rfl, rfl, _, rfl, leave_closed rfl⟩
  have hl := fig_len a0
  have hs : ls.length ≤ maxLen := by unfold maxLen; omega
  cases a1 : stgG ls g
  · repeat (first | (with_reducible (first | apply wA | apply wB | apply wC | apply wD | apply wE | apply wF | apply wG | apply wH | apply wI | apply wJ | apply wK | apply wL | apply wM | apply wN | apply wO | apply wP | apply wQ rfl | apply wR | apply wS | apply wT | apply wU)) | ((with_reducible (first | apply wV | apply wW | apply wX | (apply wY [] hTT cfMk_ok noM_ok mixed; (focus kernel_rfl)))); (focus (simp only [Tryz.f50, cfMk, c85, c96, hd, hd2, a0, a1, hs, notYield, go_sem]; with_reducible rfl))) | (with_reducible refine wZ hTT cfMk_ok noM_ok ?_) | (with_reducible refine wa ?_; refine And.intro ?_ ?_; (focus kernel_rfl)))
    exact ⟨rfl, rfl, _, rfl, leave_closed rfl⟩
  rw [if_pos ⟨rfl, rfl⟩]
  have H : StOk s z zh zr ls g := ⟨hzo, hh, hr, a0, a1⟩
  have hsb : stB s z zh zr ls g = true := stB_iff.2 H
  have hdk := decSt_enc s z zh zr ls g
  unfold stgC at hdk
  have hfl := fines_len a0 g
  have hit := fines_147 s z zh zr ls g hzo hh hr a0 a1
  have hPO := fun i => parts_ok (g := g) a0 i
  unfold partsG
  repeat (first | (with_reducible (first | apply wA | ((fail_if_success (refine RunQ.seq (x := .region 4 _ _) ?_)); (apply wB)) | apply wC | apply wD | apply wE | apply wF | apply wG | apply wH | apply wI | apply wJ | apply wK | apply wL | apply wM | apply wN | apply wO | apply wP | apply wQ rfl | apply wR | apply wS | apply wT | apply wU)) | ((with_reducible (first | apply wV | apply wW | apply wX | (apply wY [] hTT cfMk_ok noM_ok mixed; (focus kernel_rfl)))); (focus (simp only [Tryz.f50, cfMk, c85, c96, hd, hd2, a0, a1, hs, notYield, go_sem]; with_reducible rfl))) | ((fail_if_success (with_reducible show RunQ _ (.region 4 _ _) _ _)); (with_reducible refine wZ hTT cfMk_ok noM_ok ?_)) | (with_reducible refine wa ?_; refine And.intro ?_ ?_; (focus kernel_rfl)))
  refine RunQ.keep [6, 3, 2] (by simp only [go_sem]; rfl) ?_
  repeat (first | (with_reducible (first | apply wA | apply wB | apply wC | apply wD | apply wE | apply wF | apply wG | apply wH | apply wI | apply wJ | apply wK | apply wL | apply wM | apply wN | apply wO | apply wP | apply wQ rfl | apply wR | apply wS | apply wT | apply wU)) | ((with_reducible (first | apply wV | apply wW | apply wX | (apply wY [] hTT cfMk_ok noM_ok mixed; (focus kernel_rfl)))); (focus (simp only [Tryz.f50, cfMk, c108, hdk, notYield, makeMapC, go_sem]; with_reducible rfl))) | (with_reducible refine wZ hTT cfMk_ok noM_ok ?_) | (with_reducible refine wa ?_; refine And.intro ?_ ?_; (focus kernel_rfl)))
  refine RunQ.keep [25, 8, 7, 6] (by simp only [go_sem]; rfl) ?_
  have hcf : closedL [ii s, .sl z (ls.map encLb)] = true := by simp [closedL, PV.closed, closedL_lbs]
  have hcs : closedL [ii g.e.a, ii g.e.b, ii g.e.c, ii g.e.d, .sl zh (g.hs.map encFld), .sl zr (g.rs.map ii)] = true := by simp [closedL, PV.closed, closedL_flds, closedL_is]
  have hKc := closed_stgC s z zh zr ls g
  have hkc : ∀ A : List (List Int), closedL ((A.map k5).map encK) = true := fun A => closedL_map (fun _ => rfl) _
  have hvc : ∀ A : List (List Int), closedL ((A.map k5).map fun _ => PV.bool true) = true := fun A => closedL_map (fun _ => rfl) _
  have hbx : ∀ (S : Prt), ltBB 7 (bxP s z zh zr ls g S) = true := by
    intro S
    have l1 := ltBL_of_closed 7 _ hcf
    have l2 := ltBL_of_closed 7 _ hcs
    have l3 := ltBL_of_closed 7 _ hKc
    have l4 := ltBL_of_closed 7 _ (hkc S.ks)
    have l5 := ltBL_of_closed 7 _ (hvc S.ks)
    unfold bxP mpB
    simp only [ltBB, Box.ltB, l1, l2, l3, l4, l5, Bool.and_true]
    rfl
  show RunQ _ _ ⟨_, _, bxP s z zh zr ls g (prtG s ls g ((finesG s ls g).take 0))⟩ _
  have htm : ∀ t v, getT [(25, PV.fn (.func 147) [] [.ip (stgC s z zh zr ls g)]), (8, .bp 5 0), (7, .bp 4 0), (6, .bp 2 0)] t = some v → Pv.Lt 7 v := by
    intro t v hv
    obtain ⟨q, hq, rfl⟩ := getT_mem hv
    simp only [List.mem_cons, List.not_mem_nil, or_false] at hq
    rcases hq with rfl | rfl | rfl | rfl
    · refine .fn (fun c hc => by cases hc) fun c hc => ?_
      simp only [List.mem_cons, List.not_mem_nil, or_false] at hc
      subst hc
      exact (lt_of_closed _ (show (PV.ip _).closed = true from hKc)).mono (by omega)
    all_goals exact .bp (by simp)
  refine RunQ.range (L := (finesG s ls g).map fun l => [pvL l]) (first := []) (cap := [.ip (stgC s z zh zr ls g)]) rfl (ent Tryz.func147 rfl) hit ?_ ?_ htm
    (fun i st => st = bxP s z zh zr ls g (prtG s ls g ((finesG s ls g).take i))) rfl ?_ ?_ ?_
  · intro e he
    obtain ⟨l, _, rfl⟩ := List.mem_map.1 he
    rfl
  · intro t ht
    have : t = 26 := by simpa using ht
    subst this
    show (26 : Nat) < 44
    decide
  · rintro k st rfl
    exact ⟨rfl, fun x hx => (lt_ltBB (hbx _) x hx).mono (by simp [bxP]), sameLoops_of _ _ rfl⟩
  · rintro i e st he rfl
    obtain ⟨l, hl2, rfl⟩ : ∃ l, (finesG s ls g)[i]? = some l ∧ e = [pvL l] := by
      rw [List.getElem?_map, Option.map_eq_some_iff] at he
      obtain ⟨l, a, rfl⟩ := he
      exact ⟨l, a, rfl⟩
    obtain ⟨hpp, hff⟩ := mem_fines.1 (List.mem_of_getElem? hl2)
    have hll := (pose_at hpp).1
    have hl5 : l.length ≤ 5 := by omega
    have hpv : pvL l = pvA l := by
      unfold pvL
      cases l with
      | nil => simp at hll; omega
      | cons a r => rfl
    have hdl : decL decI (l.map ii) = some l := decIs l
    have hdl1 : decIs1 (.sl .a (l.map ii)) = some l := decIs1_enc (by cases l <;> rfl)
    have hS := hPO i
    have hst := prt_take (s := s) (ls := ls) (g := g) hl2
    have hlt := (List.getElem?_eq_some_iff.1 hl2).1
    have hrl : (prtG s ls g ((finesG s ls g).take i)).rs.length ≤ i := by
      have := hS.le
      rw [List.length_take] at this
      omega
    have hkl : ∀ k ∈ (prtG s ls g ((finesG s ls g).take i)).ks, k.length = ls.length := fun k hk => (pose_at (hS.fine k hk).1).1
    rw [hpv]
    refine .next _ rfl fun own ho => ?_
    rw [hst]
    generalize prtG s ls g ((finesG s ls g).take i) = S at hS hrl hkl ⊢
    have hko := keyP_ok l
    have e4 : IntKind.i64.wrap ((S.rs.length : Int) + 1) = ((S.rs.length + 1 : Nat) : Int) := wrap_id (by omega) (by omega)
    unfold YRun
    generalize hX : Box.loop _ = X1
    repeat (first | (with_reducible (first | apply wA | apply wB | apply wC | apply wD | apply wE | apply wF | apply wG | apply wH | apply wI | apply wJ | apply wK | apply wL | apply wM | apply wN | apply wO | apply wP | apply wQ rfl | apply wR | apply wS | apply wT | apply wU)) | ((with_reducible (first | apply wV | apply wW | apply wX | (apply wY [] hTT cfMk_ok noM_ok mixed; (focus kernel_rfl)))); (focus (simp only [Tryz.f50, putPs, List.toList_toArray, go_sem]; with_reducible rfl))) | (with_reducible refine wZ hTT cfMk_ok noM_ok ?_) | (with_reducible refine wa ?_; refine And.intro ?_ ?_; (focus kernel_rfl)))
    refine ⟨rfl, own, by rw [← hX], ?_⟩
    dsimp only
    generalize hX2 : Box.loop _ = X2
    have hX2l : ∀ k, 7 ≤ k → X2.Lt k := fun k hk => by
      rw [← hX2]
      exact fun t v hv => (htm t v hv).mono hk
    obtain ⟨SS, hSS⟩ : ∃ SS : Box → Box → List Box, ∀ m v, SS m v = [.var [ii s, .sl z (ls.map encLb)] false, .var [ii g.e.a, ii g.e.b, ii g.e.c, ii g.e.d, .sl zh (g.hs.map encFld), .sl zr (g.rs.map ii)] false, .var (stgC s z zh zr ls g) false, m, .var [.mp 3] false, v] ++ (X2 :: own) := ⟨_, fun _ _ => rfl⟩
    show RunQ _ _ ⟨_, _, [.var [ii s, .sl z (ls.map encLb)] false, .var [ii g.e.a, ii g.e.b, ii g.e.c, ii g.e.d, .sl zh (g.hs.map encFld), .sl zr (g.rs.map ii)] false, .var (stgC s z zh zr ls g) false, mpB S.ks, .var [.mp 3] false, .var [ii (S.rs.length : Nat)] false] ++ (X2 :: own)⟩ _
    rw [← hSS]
    generalize hN : own.length + 7 = N
    have ssl : ∀ m v, (SS m v).length = N := fun m v => by rw [hSS, ← hN]; simp
    have sapp : ∀ m v B, SS m v ++ B = [.var [ii s, .sl z (ls.map encLb)] false, .var [ii g.e.a, ii g.e.b, ii g.e.c, ii g.e.d, .sl zh (g.hs.map encFld), .sl zr (g.rs.map ii)] false, .var (stgC s z zh zr ls g) false, m, .var [.mp 3] false, v] ++ (X2 :: (own ++ B)) := fun m v B => by rw [hSS]; simp
    have ss2 : ∀ m v B, (SS m v ++ B)[2]? = some (.var (stgC s z zh zr ls g) false) := fun m v B => by rw [sapp]; rfl
    have ss3 : ∀ m v B, (SS m v ++ B)[3]? = some m := fun m v B => by rw [sapp]; rfl
    have ss4 : ∀ m v B, (SS m v ++ B)[4]? = some (.var [.mp 3] false) := fun m v B => by rw [sapp]; rfl
    have ss5 : ∀ m v B, (SS m v ++ B)[5]? = some v := fun m v B => by rw [sapp]; rfl
    have st3 : ∀ m v B (q : Box), (SS m v ++ B).set 3 q = SS q v ++ B := fun m v B q => by rw [sapp, sapp]; rfl
    have st5 : ∀ m v B (q : Box), (SS m v ++ B).set 5 q = SS m q ++ B := fun m v B q => by rw [sapp, sapp]; rfl
    have sse0 : ∀ m v B, (SS m v ++ B)[N]? = B[0]? := fun m v B => by rw [← ssl m v]; exact app_get0 _ _
    have sse : ∀ m v B n, (SS m v ++ B)[N + n]? = B[n]? := fun m v B n => by rw [← ssl m v]; exact app_get _ _ _
    have sts0 : ∀ m v B (q : Box), (SS m v ++ B).set N q = SS m v ++ B.set 0 q := fun m v B q => by rw [← ssl m v]; exact app_set0 _ _ _
    have sts : ∀ m v B n (q : Box), (SS m v ++ B).set (N + n) q = SS m v ++ B.set n q := fun m v B n q => by rw [← ssl m v]; exact app_set _ _ _ _
    have hnd : [4, N, 3].Nodup := by simp; omega
    have hmB : ∀ A, mpB A = .map ((A.map k5).map encK) ((A.map k5).map fun _ => .bool true) false := fun _ => rfl
    cases hc : S.ks.contains l
    · have hnx : l ∉ S.ks := by simpa using hc
      have hnx5 : k5 l ∉ S.ks.map k5 := fun h => hnx ((k5_mem hkl hll (by omega)).1 h)
      have e1 : findC K148 (keyP l) ((S.ks.map k5).map encK) 0 = some none := find_not _ 0 hnx5
      repeat (first | (with_reducible (first | apply wA | ((fail_if_success (refine RunQ.seq (x := .region 8 _ _) ?_)); (apply wB)) | apply wC | apply wD | apply wE | apply wF | apply wG | apply wH | apply wI | apply wJ | apply wK | apply wL | apply wM | apply wN | apply wO | apply wP | apply wQ rfl | apply wR | apply wS | apply wT | apply wU)) | ((with_reducible (first | apply wV | apply wW | apply wX | (apply wY [] hTT cfMk_ok noM_ok mixed; (focus kernel_rfl)))); (focus (simp only [Tryz.f50, go_sem]; with_reducible rfl))) | ((fail_if_success (with_reducible show RunQ _ (.region 8 _ _) _ _)); (with_reducible refine wZ hTT cfMk_ok noM_ok ?_)) | (with_reducible refine wa ?_; refine And.intro ?_ ?_; (focus kernel_rfl)))
      refine RunQ.seq ?_
      refine RunQ.drawn [] hTT cfMk_ok noM_ok mixed (by kernel_rfl) (by simp only [go_sem]; rfl) ?_
      iterate 4 (apply DrawQ.step; (focus (simp only [Tryz.f50, cfMk, c99s, closedL_is, hdl, hl5, hmB, lookupC, mapC, hko, e1, ss3, ss4, sse0, sse, sts0, sts, ssl, freeB, go_sem]; with_reducible rfl)))
      refine DrawQ.nil ⟨boxOk_ren [4, N, 3] [(false, none, [0]), (false, none, []), (false, none, [1]), (false, none, [2])] hnd (by kernel_rfl) rfl (by kernel_rfl), ?_⟩
      refine thenQ.n ?_
      repeat (first | (with_reducible (first | apply wA | ((fail_if_success (refine RunQ.seq (x := .region 10 _ _) ?_)); (apply wB)) | apply wC | apply wD | apply wE | apply wF | apply wG | apply wH | apply wI | apply wJ | apply wK | apply wL | apply wM | apply wN | apply wO | apply wP | apply wQ rfl | apply wR | apply wS | apply wT | apply wU)) | ((with_reducible (first | apply wV | apply wW | apply wX | (apply wY [] hTT cfMk_ok noM_ok mixed; (focus kernel_rfl)))); (focus (simp only [Tryz.f50, ss5, st5, e4, go_sem]; with_reducible rfl))) | ((fail_if_success (with_reducible show RunQ _ (.region 10 _ _) _ _)); (with_reducible refine wZ hTT cfMk_ok noM_ok ?_)) | (with_reducible refine wa ?_; refine And.intro ?_ ?_; (focus kernel_rfl)))
      refine RunQ.keep [9, 8, 7, 6] (by simp only [go_sem]; rfl) ?_
      have hP : prtStep s ls g S l = ⟨S.ks ++ keysG s ls g l, S.rs ++ [l]⟩ := by
        unfold prtStep
        rw [if_neg (by rw [hc]; simp), newK_eq a0 hS hpp hff hnx]
      have hKl : ∀ k ∈ keysG s ls g l, k.length = ls.length := fun k hk => (pose_at (met_fine a0 hpp hff (mem_keys.1 hk)).1).1
      have hKn : ∀ k ∈ keysG s ls g l, k ∉ S.ks := fun k hk => new_all a0 hS hpp hff hnx (mem_keys.1 hk)
      have hKd : (keysG s ls g l).Nodup := awayG_nodup
      have hnk := next_k5 hkl hKl (by omega) hKn
      have hkm := mpK_k5 (awayG s ls g l)
      have hvb : ∀ v ∈ mpV (awayG s ls g l), v.ltB 0 = true := fun v hv => by
        obtain ⟨x, _, rfl⟩ := List.mem_map.1 hv
        rfl
      have hmc := ltBL_of_closed 0 _ (mpKc (awayG s ls g l))
      rw [hP]
      show RunQ _ _ _ _
      have hkey : (awayG s ls g l).map Prod.fst = keysG s ls g l := rfl
      rw [hkey] at hkm
      generalize keysG s ls g l = KK at *
      refine RunQ.union (M := KK.map k5) (A := S.ks.map k5) (idm := N + 1) (idt := 3) (b7 := 4) (vsm := mpV (awayG s ls g l)) (fz := false) (f7 := false) cfMk_ok rfl rfl rfl (by simp only [go_sem]) (by simp only [Tryz.f50, ss2, go_sem]; with_reducible rfl) (by simp only [go_sem]) (by simp only [go_sem]; with_reducible rfl) (by simp only [go_sem]) (by simp only [cfMk, c98m, hdk, hdl1, hsb, hpp, ssl, hkm, and_self, if_true, go_sem]; with_reducible rfl) ?_ ?_ hvb ?_ ?_ ?_ ?_ ?_ ?_ ?_ ?_ ?_ ?_
      · rfl
      · exact sse _ _ _ 1
      · rfl
      · exact ss4 _ _ _
      · exact ss3 _ _ _
      · omega
      · exact k5_nodup hkl (by omega) hS.nd
      · exact k5_nodup hKl (by omega) hKd
      · show 42 < 44
        decide
      · intro b hb
        have hb : b ∈ SS (mpB S.ks) (Box.var [PV.int IntKind.i64 ((S.rs.length + 1 : Nat) : Int)] false) ++ [Box.dead, Box.map ((KK.map k5).map encK) (mpV (awayG s ls g l)) false] := hb
        show b.Lt (SS (mpB S.ks) (Box.var [PV.int IntKind.i64 ((S.rs.length + 1 : Nat) : Int)] false) ++ [Box.dead, Box.map ((KK.map k5).map encK) (mpV (awayG s ls g l)) false]).length
        have hlen : (SS (mpB S.ks) (Box.var [PV.int IntKind.i64 ((S.rs.length + 1 : Nat) : Int)] false) ++ [Box.dead, Box.map ((KK.map k5).map encK) (mpV (awayG s ls g l)) false]).length = N + 2 := by rw [List.length_append, ssl]; rfl
        rw [hlen]
        rw [sapp] at hb
        rcases List.mem_append.1 hb with hb | hb
        · refine (lt_ltBB (hbx ⟨S.ks, S.rs ++ [l]⟩) b ?_).mono (by omega)
          unfold bxP
          rw [List.length_append, List.length_singleton]
          exact hb
        rcases List.mem_cons.1 hb with rfl | hb
        · exact hX2l _ (by omega)
        rcases List.mem_append.1 hb with hb | hb
        · have h7 : ∀ S, (bxP s z zh zr ls g S).length = 6 := fun _ => rfl
          have := ho b hb
          rw [h7] at this
          exact this.mono (by omega)
        · simp only [List.mem_cons, List.not_mem_nil, or_false] at hb
          rcases hb with rfl | rfl
          · exact (boxLt_of (m := 0) rfl).mono (Nat.zero_le _)
          · exact ⟨fun c hc => (lt_of_closedL _ (hkc KK) c hc).mono (Nat.zero_le _), fun c hc => (lt_of_closedL _ (mpVc _) c hc).mono (Nat.zero_le _)⟩
      · intro t v hv
        have hlen : (SS (mpB S.ks) (Box.var [PV.int IntKind.i64 ((S.rs.length + 1 : Nat) : Int)] false) ++ [Box.dead, Box.map ((KK.map k5).map encK) (mpV (awayG s ls g l)) false]).length = N + 2 := by rw [List.length_append, ssl]; rfl
        show Pv.Lt (SS (mpB S.ks) (Box.var [PV.int IntKind.i64 ((S.rs.length + 1 : Nat) : Int)] false) ++ [Box.dead, Box.map ((KK.map k5).map encK) (mpV (awayG s ls g l)) false]).length v
        rw [hlen]
        obtain ⟨q, hq, rfl⟩ := getT_mem (dropT_get hv)
        simp only [List.mem_cons, List.not_mem_nil, or_false] at hq
        rcases hq with rfl | rfl | rfl | rfl | rfl | rfl | rfl
        · exact .mp (by omega)
        · exact (lt_of_closed (pvA l) (closedL_is l)).mono (Nat.zero_le _)
        · exact (lt_of_closed (.agg _) (show closedL _ = true from hKc)).mono (Nat.zero_le _)
        · exact (lt_of_closed (pvA l) (closedL_is l)).mono (Nat.zero_le _)
        all_goals exact .bp (by omega)
      · refine ⟨rfl, [.dead, .map ((KK.map k5).map encK) (mpV (awayG s ls g l)) true], ?_⟩
        show ((SS (mpB S.ks) (Box.var [PV.int IntKind.i64 ((S.rs.length + 1 : Nat) : Int)] false) ++ [Box.dead, Box.map ((KK.map k5).map encK) (mpV (awayG s ls g l)) false]).set (N + 1) _).set 3 _ = _
        rw [sts, st3, hnk, sapp]
        unfold bxP mpB
        simp
    · have hx : l ∈ S.ks := by simpa using hc
      have hx5 : k5 l ∈ S.ks.map k5 := (k5_mem hkl hll (by omega)).2 hx
      obtain ⟨j, e1, e2⟩ := find_in (S.ks.map k5) 0 (k5_nodup hkl (by omega) hS.nd) hx5
      have e1 : findC K148 (keyP l) ((S.ks.map k5).map encK) 0 = some (some (0 + j)) := e1
      have e3 : ((S.ks.map k5).map fun _ => PV.bool true)[0 + j]? = some (.bool true) := by rw [Nat.zero_add, List.getElem?_map, List.getElem?_eq_getElem e2]; rfl
      generalize 0 + j = jj at e1 e3
      have hP : prtStep s ls g S l = S := by
        unfold prtStep
        rw [if_pos hc]
      rw [hP]
      repeat (first | (with_reducible (first | apply wA | ((fail_if_success (refine RunQ.seq (x := .region 8 _ _) ?_)); (apply wB)) | apply wC | apply wD | apply wE | apply wF | apply wG | apply wH | apply wI | apply wJ | apply wK | apply wL | apply wM | apply wN | apply wO | apply wP | apply wQ rfl | apply wR | apply wS | apply wT | apply wU)) | ((with_reducible (first | apply wV | apply wW | apply wX | (apply wY [] hTT cfMk_ok noM_ok mixed; (focus kernel_rfl)))); (focus (simp only [Tryz.f50, go_sem]; with_reducible rfl))) | ((fail_if_success (with_reducible show RunQ _ (.region 8 _ _) _ _)); (with_reducible refine wZ hTT cfMk_ok noM_ok ?_)) | (with_reducible refine wa ?_; refine And.intro ?_ ?_; (focus kernel_rfl)))
      refine RunQ.seq ?_
      refine RunQ.drawn [] hTT cfMk_ok noM_ok mixed (by kernel_rfl) (by simp only [go_sem]; rfl) ?_
      iterate 4 (apply DrawQ.step; (focus (simp only [Tryz.f50, cfMk, c99s, closedL_is, hdl, hl5, hmB, lookupC, mapC, hko, e1, e3, ss3, ss4, sse0, sse, sts0, sts, ssl, freeB, go_sem]; with_reducible rfl)))
      refine DrawQ.nil ⟨boxOk_ren [4, N, 3] [(false, none, [0]), (false, none, []), (false, none, [1]), (false, none, [2])] hnd (by kernel_rfl) rfl (by kernel_rfl), ?_⟩
      repeat (first | (with_reducible (first | apply wA | apply wB | apply wC | apply wD | apply wE | apply wF | apply wG | apply wH | apply wI | apply wJ | apply wK | apply wL | apply wM | apply wN | apply wO | apply wP | apply wQ rfl | apply wR | apply wS | apply wT | apply wU)) | ((with_reducible (first | apply wV | apply wW | apply wX | (apply wY [] hTT cfMk_ok noM_ok mixed; (focus kernel_rfl)))); (focus (simp only [Tryz.f50, go_sem]; with_reducible rfl))) | (with_reducible refine wZ hTT cfMk_ok noM_ok ?_) | (with_reducible refine wa ?_; refine And.intro ?_ ?_; (focus kernel_rfl)))
      exact ⟨rfl, [.dead], by rw [sapp]; simp [bxP, mpB]⟩
  · rintro st rfl
    rw [List.length_map, List.take_length]
    have hrl := (parts_all (g := g) a0).le
    generalize prtG s ls g (finesG s ls g) = S at hrl ⊢
    unfold bxP
    repeat (first | (with_reducible (first | apply wA | apply wB | apply wC | apply wD | apply wE | apply wF | apply wG | apply wH | apply wI | apply wJ | apply wK | apply wL | apply wM | apply wN | apply wO | apply wP | apply wQ rfl | apply wR | apply wS | apply wT | apply wU)) | ((with_reducible (first | apply wV | apply wW | apply wX | (apply wY [] hTT cfMk_ok noM_ok mixed; (focus kernel_rfl)))); (focus (simp only [Tryz.f50, go_sem]; with_reducible rfl))) | (with_reducible refine wZ hTT cfMk_ok noM_ok ?_) | (with_reducible refine wa ?_; refine And.intro ?_ ?_; (focus kernel_rfl)))
    exact ⟨rfl, rfl, _, rfl, leave_closed rfl⟩
def c50 : List PV → List Box → Option (PRes × List Box)
  | [v, w], sg => match decFig v, decStg w with
    | some (s, ls), some g => some (.ret (partR s ls g), sg)
    | _, _ => none
  | _, _ => none
theorem c50_ok : ConOk Tryz.prog 50 c50 := ConOk.of0 (ent Tryz.func50 rfl) fun args sg r sg' h => by
  unfold c50 at h
  split at h <;> try (cases h; done)
  split at h <;> cases h
  rename_i h1 h2
  obtain ⟨z, rfl, hz⟩ := decFig_inv h1
  obtain ⟨zh, zr, rfl, hh, hr⟩ := decStg_inv h2
  exact ⟨_, rfl, rfl, by rw [ltBL_cons, ltB_fig, ltBL_cons, ltB_stg]; rfl, Parts_50 _ _ _ _ _ _ (zOk_n' hz) hh hr⟩
end Go.Pv
